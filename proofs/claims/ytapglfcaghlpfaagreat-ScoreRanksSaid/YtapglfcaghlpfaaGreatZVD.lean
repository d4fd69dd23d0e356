/- A part of the proof that the last text ends: what functions of the program do, told by plain data. -/
import Derived.Test.YtapglfcaghlpfaaGreatZUC
set_option linter.unusedVariables false
set_option linter.unusedSimpArgs false
namespace Go.Proofs.YtapglfcaghlpfaaGreat
open Go Go.E Go.Maps
set_option maxRecDepth 100000
structure Oth (l : List Int) (j k : Nat) (M m : Int) : Prop where
  le : m ≤ M
  top : ∃ i, i < l.length ∧ i ≠ j ∧ l.getD i default = M
  bot : ∃ i, i < l.length ∧ i ≠ j ∧ l.getD i default = m
  all : ∀ i, i < k → i ≠ j → m ≤ l.getD i default ∧ l.getD i default ≤ M
theorem Oth.step {l : List Int} {j k : Nat} {M m : Int} (h : Oth l j k M m) (hk : k < l.length) (hj : k ≠ j) : Oth l j (k + 1) (max M (l.getD k default)) (min m (l.getD k default)) := by
  refine ⟨by have := h.le; omega, ?_, ?_, fun i hi hij => ?_⟩
  · by_cases c : M ≤ l.getD k default
    · exact ⟨k, hk, hj, by omega⟩
    · obtain ⟨i, h1, h2, h3⟩ := h.top; exact ⟨i, h1, h2, by omega⟩
  · by_cases c : l.getD k default ≤ m
    · exact ⟨k, hk, hj, by omega⟩
    · obtain ⟨i, h1, h2, h3⟩ := h.bot; exact ⟨i, h1, h2, by omega⟩
  · by_cases c : i = k
    · subst c; omega
    · have := h.all i (by omega) hij; omega
theorem Oth.skip {l : List Int} {j : Nat} {M m : Int} (h : Oth l j j M m) : Oth l j (j + 1) M m :=
  ⟨h.le, h.top, h.bot, fun i hi hij => h.all i (by omega) hij⟩
theorem Oth.first {l : List Int} {j k : Nat} (hk : k < l.length) (hj : k ≠ j) (h : ∀ i, i < k → i = j) : Oth l j (k + 1) (l.getD k default) (l.getD k default) :=
  ⟨Int.le_refl _, ⟨k, hk, hj, rfl⟩, ⟨k, hk, hj, rfl⟩, fun i hi hij => by
    have : i = k := by
      rcases Nat.lt_or_ge i k with c | c
      · exact absurd (h i c) hij
      · omega
    subst this; exact ⟨Int.le_refl _, Int.le_refl _⟩⟩
end Go.Proofs.YtapglfcaghlpfaaGreat
