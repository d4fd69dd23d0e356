/- A part of the proof that the last text ends: what functions of the program do, told by plain data. -/
import Derived.Test.YtofbbkacihnjdaaDoorHPc
set_option linter.unusedVariables false
set_option linter.unusedSimpArgs false
namespace Go.Proofs.YtofbbkacihnjdaaDoor
open Go Go.E Go.Maps
set_option maxRecDepth 100000
set_option maxHeartbeats 1000000
theorem ot_good {t : Tt} {bs : List Int} : ∀ k, k ≤ t.hours.length → goodB t (padL (otN t bs k) t.hours.length) = true
  | 0, _ => by
    rw [good_iff]
    have hl : (padL (otN t bs 0) t.hours.length).length = t.hours.length := padL_len (by rw [otN_len]; omega)
    have hg : ∀ j, j < t.hours.length → (padL (otN t bs 0) t.hours.length).getD j default = -1 := fun j hj => by
      simp [otN, padL, List.getD, List.getElem?_replicate, hj]
    refine ⟨pl_of (fun j hj => ?_) hl, fun j hj => ?_⟩
    · rw [hl] at hj; rw [hg j hj]; omega
    · rw [hl] at hj
      refine er_neg ?_
      rw [hg j hj]; omega
  | k + 1, hk => by
    have hl := otN_len (t := t) (bs := bs) k
    unfold otN
    split
    · rename_i h
      have : padL (otN t bs k ++ [-1]) t.hours.length = padL (otN t bs k) t.hours.length := by
        unfold padL
        rw [List.length_append, hl, List.length_singleton, List.append_assoc, show t.hours.length - k = (t.hours.length - (k + 1)) + 1 by omega, List.replicate_succ]
        rfl
      rw [this]
      exact ot_good k (by omega)
    · rename_i h
      have h2 : ¬ ¬ goodB t (padL (otN t bs k ++ [otG t bs k]) t.hours.length) = true := fun h3 => h (.inr h3)
      exact Decidable.not_not.1 h2
theorem ot_go {t : Tt} {bs : List Int} : goP t (otN t bs t.hours.length) := by
  have h := ot_good (t := t) (bs := bs) t.hours.length (Nat.le_refl _)
  have e : padL (otN t bs t.hours.length) t.hours.length = otN t bs t.hours.length := by
    unfold padL; rw [otN_len, Nat.sub_self]; simp
  rw [e] at h
  exact good_iff.1 h
end Go.Proofs.YtofbbkacihnjdaaDoor
