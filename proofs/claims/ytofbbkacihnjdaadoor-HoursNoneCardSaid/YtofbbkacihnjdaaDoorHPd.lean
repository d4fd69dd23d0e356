/- A part of the proof that the last text ends: what functions of the program do, told by plain data. -/
import Derived.Test.YtofbbkacihnjdaaDoorHPc
set_option linter.unusedVariables false
set_option linter.unusedSimpArgs false
namespace Go.Proofs.YtofbbkacihnjdaaDoor
open Go Go.E Go.Maps
set_option maxRecDepth 100000
set_option maxHeartbeats 1000000
theorem ot_good {t : Tt} {bs : List Int} : ∀ k, k ≤ t.hours.length → goodB t (padL (otN t bs k) t.hours.length) = true
  | 0, _ => by
    rw [good_iff]
    have hl : (padL (otN t bs 0) t.hours.length).length = t.hours.length := padL_len (by rw [otN_len]; omega)
    have hg : ∀ j, j < t.hours.length → (padL (otN t bs 0) t.hours.length).getD j default = -1 := fun j hj => by
      simp [otN, padL, List.getD, List.getElem?_replicate, hj]
    refine ⟨pl_of (fun j hj => ?_) hl, fun j hj => ?_⟩
    · rw [hl] at hj; rw [hg j hj]; omega
    · rw [hl] at hj
      refine er_neg ?_
      rw [hg j hj]; omega
  | k + 1, hk => by
    have hl := otN_len (t := t) (bs := bs) k
    unfold otN
    split
    · rename_i h
      have : padL (otN t bs k ++ [-1]) t.hours.length = padL (otN t bs k) t.hours.length := by
        unfold padL
        rw [List.length_append, hl, List.length_singleton, List.append_assoc, show t.hours.length - k = (t.hours.length - (k + 1)) + 1 by omega, List.replicate_succ]
        rfl
      rw [this]
      exact ot_good k (by omega)
    · rename_i h
      have h2 : ¬ ¬ goodB t (padL (otN t bs k ++ [otG t bs k]) t.hours.length) = true := fun h3 => h (.inr h3)
      exact Decidable.not_not.1 h2
theorem ot_go {t : Tt} {bs : List Int} : goP t (otN t bs t.hours.length) := by
  have h := ot_good (t := t) (bs := bs) t.hours.length (Nat.le_refl _)
  have e : padL (otN t bs t.hours.length) t.hours.length = otN t bs t.hours.length := by
    unfold padL; rw [otN_len, Nat.sub_self]; simp
  rw [e] at h
  exact good_iff.1 h
theorem lx_at : ∀ {p q : List Int} {k : Nat}, lx p q → (∀ j, j < k → p.getD j default = q.getD j default) → k < p.length → k < q.length → ¬ p.getD k default = q.getD k default → q.getD k default < 0 ∨ (0 ≤ p.getD k default ∧ p.getD k default < q.getD k default)
  | [], _, _, _, _, h, _, _ => by simp at h
  | _ :: _, [], _, _, _, _, h, _ => by simp at h
  | a :: p, b :: q, 0, h, _, _, _, hne => by
    unfold lx at h
    have hne : ¬ a = b := hne
    rw [if_neg hne] at h
    exact h
  | a :: p, b :: q, k + 1, h, he, h1, h2, hne => by
    have e0 : a = b := he 0 (by omega)
    unfold lx at h
    rw [if_pos e0] at h
    exact lx_at (p := p) (q := q) (k := k) h (fun j hj => he (j + 1) (by omega)) (by simpa using h1) (by simpa using h2) hne
theorem none_law {t : Tt} (ht : ttOk t = true) {p q : List Int} (hp : frR t = (p, 0)) (hq : goP t q) : goP t p ∧ 0 ≤ cmpL (isort (hasL t p)) (isort (hasL t q)) ∧ ((ckR t q).1 = hasL t q ∧ (ckR t q).2.1 = q.length ∧ (ckR t q).2.2 = 0) ∧ cpR t p q = (cmpL (isort (hasL t p)) (isort (hasL t q)), 0) ∧ (cmpL (isort (hasL t p)) (isort (hasL t q)) = 0 → lx p q) := by
  obtain ⟨p', h1, h2, h3⟩ := fr_law ht
  obtain rfl : p' = p := by rw [hp] at h1; cases h1; rfl
  have hc := h3 q hq
  have hn := fairI_neg (t := t) (p := p') (q := q)
  have k1 := (ck_ok ht).2 hq
  have k2 := (ck_ok ht).2 h2
  have kv := ck_val ht k1
  refine ⟨h2, ?_, ⟨kv.1, kv.2.1, k1⟩, ?_, fun h => hc.2 ?_⟩
  · have := hc.1
    unfold fairI at *
    omega
  · unfold cpR
    rw [if_pos k2, if_pos k1]; rfl
  · unfold fairI at *
    omega
end Go.Proofs.YtofbbkacihnjdaaDoor
