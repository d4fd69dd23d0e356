/- A part of the proof that the last text ends: what functions of the program do, told by plain data. -/
import Derived.Test.YtapglfcaghlpfaaVR
set_option linter.unusedVariables false
set_option linter.unusedSimpArgs false
namespace Go.Proofs.Ytapglfcaghlpfaa
open Go Go.E Go.Maps
set_option maxRecDepth 100000
/-! ### One judge alone: between the least and the greatest of the others -/
theorem end_inv {l : List Int} {j : Nat} {most : Bool} (hj : j < l.length) : ∀ k, k ≤ l.length →
    ((endN l j most k).2 = true ∧ ∀ i, i < k → i = j) ∨
    ((endN l j most k).2 = false ∧ (∃ i, i < k ∧ i ≠ j ∧ l.getD i default = (endN l j most k).1) ∧ ∀ i, i < k → i ≠ j → if most = true then l.getD i default ≤ (endN l j most k).1 else (endN l j most k).1 ≤ l.getD i default)
  | 0, _ => .inl ⟨rfl, fun i hi => by omega⟩
  | k + 1, hk => by
    have ek : endN l j most (k + 1) = if k ≠ j ∧ ((endN l j most k).2 = true ∨ (most = true ∧ (endN l j most k).1 < l.getD k default) ∨ (most = false ∧ l.getD k default < (endN l j most k).1)) then (l.getD k default, false) else endN l j most k := rfl
    have ih := end_inv (most := most) hj k (by omega)
    generalize endN l j most (k + 1) = F' at ek ⊢
    generalize endN l j most k = F at ek ih
    by_cases c : k = j
    · rw [if_neg (fun h => h.1 c)] at ek
      subst ek
      rcases ih with ⟨h1, h2⟩ | ⟨h1, ⟨i, h2, h3, h4⟩, h5⟩
      · exact .inl ⟨h1, fun i hi => by
          rcases Nat.lt_or_ge i k with q | q
          · exact h2 i q
          · omega⟩
      · refine .inr ⟨h1, ⟨i, by omega, h3, h4⟩, fun i hi hne => h5 i (by omega) hne⟩
    · rcases ih with ⟨h1, h2⟩ | ⟨h1, ⟨i0, h2, h3, h4⟩, h5⟩
      · rw [if_pos ⟨c, .inl h1⟩] at ek
        subst ek
        refine .inr ⟨rfl, ⟨k, by omega, c, rfl⟩, fun i hi hne => ?_⟩
        have : i = k := by
          rcases Nat.lt_or_ge i k with q | q
          · exact absurd (h2 i q) hne
          · omega
        subst this
        split <;> exact Int.le_refl _
      · cases most
        · by_cases d : l.getD k default < F.1
          · rw [if_pos ⟨c, .inr (.inr ⟨rfl, d⟩)⟩] at ek
            subst ek
            refine .inr ⟨rfl, ⟨k, by omega, c, rfl⟩, fun i hi hne => ?_⟩
            simp only [Bool.false_eq_true, if_false] at h5 ⊢
            by_cases q : i = k
            · subst q; exact Int.le_refl _
            · have := h5 i (by omega) hne; omega
          · rw [if_neg (fun h => by rcases h.2 with h | h | h; (rw [h1] at h; cases h); cases h.1; exact d h.2)] at ek
            subst ek
            refine .inr ⟨h1, ⟨i0, by omega, h3, h4⟩, fun i hi hne => ?_⟩
            simp only [Bool.false_eq_true, if_false] at h5 ⊢
            by_cases q : i = k
            · subst q; omega
            · exact h5 i (by omega) hne
        · by_cases d : F.1 < l.getD k default
          · rw [if_pos ⟨c, .inr (.inl ⟨rfl, d⟩)⟩] at ek
            subst ek
            refine .inr ⟨rfl, ⟨k, by omega, c, rfl⟩, fun i hi hne => ?_⟩
            simp only [if_true] at h5 ⊢
            by_cases q : i = k
            · subst q; exact Int.le_refl _
            · have := h5 i (by omega) hne; omega
          · rw [if_neg (fun h => by rcases h.2 with h | h | h; (rw [h1] at h; cases h); exact d h.2; cases h.1)] at ek
            subst ek
            refine .inr ⟨h1, ⟨i0, by omega, h3, h4⟩, fun i hi hne => ?_⟩
            simp only [if_true] at h5 ⊢
            by_cases q : i = k
            · subst q; omega
            · exact h5 i (by omega) hne
/-- With five marks or more: whatever the judge gives. -/
theorem cnts_out {l : List Int} {j : Nat} (hj : j < l.length) (h5 : 5 ≤ (l.length : Int)) (v : Int) : (cnts (endL l j false)).1 ≤ (cnts (l.set j v)).1 ∧ (cnts (l.set j v)).1 ≤ (cnts (endL l j true)).1 := by
  obtain ⟨S, M, m, h1, h2⟩ := cnts_set hj
  have ho := h1 h5
  obtain ⟨iM, hM1, hM2, hM3⟩ := ho.top
  obtain ⟨im, hm1, hm2, hm3⟩ := ho.bot
  have hle := ho.le
  have a1 : (endN l j false l.length).1 = m := by
    rcases end_inv (most := false) hj l.length (Nat.le_refl _) with ⟨_, k2⟩ | ⟨_, ⟨i, k2, k3, k4⟩, k5⟩
    · exact absurd (k2 im hm1) hm2
    · have q1 := ho.all i k2 k3
      have q2 := k5 im hm1 hm2
      simp only [Bool.false_eq_true, if_false] at q2
      omega
  have a2 : (endN l j true l.length).1 = M := by
    rcases end_inv (most := true) hj l.length (Nat.le_refl _) with ⟨_, k2⟩ | ⟨_, ⟨i, k2, k3, k4⟩, k5⟩
    · exact absurd (k2 iM hM1) hM2
    · have q1 := ho.all i k2 k3
      have q2 := k5 iM hM1 hM2
      simp only [if_true] at q2
      omega
  unfold endL
  rw [a1, a2, h2, h2, h2, if_pos h5, if_pos h5, if_pos h5]
  omega
end Go.Proofs.Ytapglfcaghlpfaa
