/- A part of the proof that the last text ends: what functions of the program do, told by plain data. -/
import Derived.Test.YtohkngiflfkjjaaRO
set_option linter.unusedVariables false
set_option linter.unusedSimpArgs false
namespace Go.Proofs.Ytohkngiflfkjjaa
open Go Go.E Go.Maps
/-! ### One off each ban, place by place -/
def gS (PM : PMem) (n : Int) (seen : List Nat) : PMem := (List.range PM.length).map fun i => if i ∈ seen then ((PM.getD i default).1, gam n (PM.getD i default).2) else PM.getD i default
theorem gS_len {PM : PMem} {n : Int} {seen : List Nat} : (gS PM n seen).length = PM.length := by simp [gS]
theorem gS_at {PM : PMem} {n : Int} {seen : List Nat} {k : Nat} (h : k < PM.length) : (gS PM n seen)[k]? = some (if k ∈ seen then ((PM.getD k default).1, gam n (PM.getD k default).2) else PM.getD k default) := by
  unfold gS
  rw [List.getElem?_map, List.getElem?_range h]; rfl
theorem gS_nil {PM : PMem} {n : Int} : gS PM n [] = PM := by
  apply List.ext_getElem?
  intro k
  by_cases h : k < PM.length
  · rw [gS_at h, if_neg (by simp), at_lt h, List.getElem?_eq_getElem h]
  · rw [List.getElem?_eq_none (by rw [gS_len]; omega), List.getElem?_eq_none (by omega)]
theorem gS_all {PM : PMem} {n : Int} {seen : List Nat} (ha : ∀ i, i < PM.length → i ∈ seen) : gS PM n seen = PM.map fun p => (p.1, gam n p.2) := by
  apply List.ext_getElem?
  intro k
  by_cases h : k < PM.length
  · rw [gS_at h, if_pos (ha k h), at_lt h, List.getElem?_map, List.getElem?_eq_getElem h]; rfl
  · rw [List.getElem?_eq_none (by rw [gS_len]; omega), List.getElem?_eq_none (by simp; omega)]
theorem gS_step {PM : PMem} {n : Int} {seen : List Nat} {k : Nat} (h : k < PM.length) : gS PM n (seen ++ [k]) = (gS PM n seen).set k ((PM.getD k default).1, gam n (PM.getD k default).2) := by
  apply List.ext_getElem?
  intro j
  rw [List.getElem?_set, gS_len]
  by_cases hj : j < PM.length
  · rw [gS_at hj]
    by_cases e : k = j
    · subst e; rw [if_pos rfl, if_pos hj, if_pos (by simp)]
    · rw [if_neg e, gS_at hj]
      have e2 : ¬ j = k := fun h => e h.symm
      have : (j ∈ seen ++ [k]) = (j ∈ seen) := by simp [e2]
      simp only [this]
  · rw [List.getElem?_eq_none (by rw [gS_len]; omega)]
    by_cases e : k = j
    · omega
    · rw [if_neg e, List.getElem?_eq_none (by rw [gS_len]; omega)]
end Go.Proofs.Ytohkngiflfkjjaa
