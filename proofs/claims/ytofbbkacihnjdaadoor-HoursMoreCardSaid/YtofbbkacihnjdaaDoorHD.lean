/- A part of the proof that the last text ends: what functions of the program do, told by plain data. -/
import Derived.Test.YtofbbkacihnjdaaDoorHS
set_option linter.unusedVariables false
set_option linter.unusedSimpArgs false
namespace Go.Proofs.YtofbbkacihnjdaaDoor
open Go Go.E Go.Maps
set_option maxRecDepth 100000
set_option maxHeartbeats 16000000
def hasN (t : Tt) (p : List Int) (k : Nat) : List Int := (List.range t.groups.length).map fun g : Nat => (cnG p p.length (g : Int) : Int) + (if g < k then (t.groups.getD g default).cred else 0)
def hasL (t : Tt) (p : List Int) : List Int := hasN t p t.groups.length
theorem hasN_len {t : Tt} {p : List Int} {k : Nat} : (hasN t p k).length = t.groups.length := by simp [hasN]
theorem hasN_at {t : Tt} {p : List Int} {k g : Nat} (h : g < t.groups.length) : (hasN t p k).getD g default = (cnG p p.length (g : Int) : Int) + (if g < k then (t.groups.getD g default).cred else 0) := by
  rw [at_lt (by rw [hasN_len]; exact h)]
  unfold hasN
  rw [List.getElem_map, List.getElem_range]
theorem hasN_zero {t : Tt} {p : List Int} : hasN t p 0 = cnL t.groups.length p p.length := by
  unfold hasN cnL
  apply List.map_congr_left
  intro g _
  rw [if_neg (by omega)]; omega
theorem hasN_succ {t : Tt} {p : List Int} {k : Nat} (h : k < t.groups.length) : hasN t p (k + 1) = (hasN t p k).set k ((cnG p p.length (k : Int) : Int) + (t.groups.getD k default).cred) := by
  apply List.ext_getElem (by simp [hasN])
  intro i h1 h2
  have hi : i < t.groups.length := by rw [hasN_len] at h1; exact h1
  rw [List.getElem_set, ← at_lt h1, hasN_at hi]
  by_cases c : k = i
  · subst c; rw [if_pos rfl, if_pos (by omega)]
  · rw [if_neg c, ← at_lt (by rw [hasN_len]; exact hi), hasN_at hi]
    by_cases d : i < k
    · rw [if_pos d, if_pos (by omega)]
    · rw [if_neg d, if_neg (by omega)]
theorem hasL_len {t : Tt} {p : List Int} : (hasL t p).length = t.groups.length := hasN_len
def ckN (t : Tt) (p : List Int) : Nat → Nat → List Int × Int × Int
  | 0, _ => (hasL t p, (p.length : Int), 0)
  | k + 1, i => if erR t p i = 0 then ckN t p k (i + 1) else ([], (i : Int), erR t p i)
def ckR (t : Tt) (p : List Int) : List Int × Int × Int := if ttOk t = true then (if plOk t p = true then ckN t p p.length 0 else ([], 0, 2)) else ([], 0, 1)
theorem pl_fo {t : Tt} {p : List Int} (h : plOk t p = true) : foP t p ∧ p.length = t.hours.length := by
  unfold plOk at h
  simp only [Bool.and_eq_true, decide_eq_true_eq] at h
  refine ⟨fun j hj => ?_, by omega⟩
  have := all_get.1 h.1 j hj
  rw [inB_iff] at this
  omega
end Go.Proofs.YtofbbkacihnjdaaDoor
