/- A part of the proof that the last text ends: what functions of the program do, told by plain data. -/
import Derived.Test.YtofbbkacihnjdaaDoorHE
set_option linter.unusedVariables false
set_option linter.unusedSimpArgs false
namespace Go.Proofs.YtofbbkacihnjdaaDoor
open Go Go.E Go.Maps
set_option maxRecDepth 100000
set_option maxHeartbeats 16000000
def fairI (t : Tt) (a b : List Int) : Int := cmpL (isort (hasL t a)) (isort (hasL t b))
theorem ckN_spec {t : Tt} {p : List Int} : ∀ k i, i + k = p.length → ((ckN t p k i).2.2 = 0 ∧ (ckN t p k i).1 = hasL t p ∧ (ckN t p k i).2.1 = p.length ∧ ∀ j, i ≤ j → j < p.length → erR t p j = 0) ∨ ∃ n : Nat, i ≤ n ∧ n < p.length ∧ ckN t p k i = ([], (n : Int), erR t p n) ∧ erR t p n ≠ 0 ∧ ∀ j, i ≤ j → j < n → erR t p j = 0
  | 0, i, h => .inl ⟨rfl, rfl, rfl, fun j h1 h2 => by omega⟩
  | k + 1, i, h => by
    unfold ckN
    by_cases c : erR t p i = 0
    · rw [if_pos c]
      rcases ckN_spec (t := t) (p := p) k (i + 1) (by omega) with ⟨h1, h2, h3, h4⟩ | ⟨n, h1, h2, h3, h4, h5⟩
      · refine .inl ⟨h1, h2, h3, fun j h5 h6 => ?_⟩
        rcases Nat.lt_or_eq_of_le h5 with h7 | h7
        · exact h4 j h7 h6
        · subst h7; exact c
      · refine .inr ⟨n, by omega, h2, h3, h4, fun j h6 h7 => ?_⟩
        rcases Nat.lt_or_eq_of_le h6 with h8 | h8
        · exact h5 j h8 h7
        · subst h8; exact c
    · rw [if_neg c]
      exact .inr ⟨i, Nat.le_refl _, by omega, rfl, c, fun j h1 h2 => by omega⟩
def goP (t : Tt) (p : List Int) : Prop := plOk t p = true ∧ ∀ j, j < p.length → erR t p j = 0
theorem ck_ok {t : Tt} {p : List Int} (ht : ttOk t = true) : (ckR t p).2.2 = 0 ↔ goP t p := by
  unfold ckR
  rw [if_pos ht]
  by_cases c : plOk t p = true
  · rw [if_pos c]
    rcases ckN_spec (t := t) (p := p) p.length 0 (by omega) with ⟨h1, h2, h3, h4⟩ | ⟨n, h1, h2, h3, h4, h5⟩
    · exact ⟨fun _ => ⟨c, fun j hj => h4 j (Nat.zero_le _) hj⟩, fun _ => h1⟩
    · rw [h3]
      exact ⟨fun h => absurd h h4, fun h => absurd (h.2 n h2) h4⟩
  · rw [if_neg c]
    exact ⟨fun h => (by cases h), fun h => absurd h.1 c⟩
theorem ck_val {t : Tt} {p : List Int} (ht : ttOk t = true) (h : (ckR t p).2.2 = 0) : (ckR t p).1 = hasL t p ∧ (ckR t p).2.1 = p.length ∧ p.length = t.hours.length := by
  have hg := (ck_ok ht).1 h
  unfold ckR at h ⊢
  rw [if_pos ht, if_pos hg.1] at h ⊢
  rcases ckN_spec (t := t) (p := p) p.length 0 (by omega) with ⟨h1, h2, h3, h4⟩ | ⟨n, h1, h2, h3, h4, h5⟩
  · exact ⟨h2, h3, (pl_fo hg.1).2⟩
  · rw [h3] at h; exact absurd h h4
def cpR (t : Tt) (a b : List Int) : Int × Int := if (ckR t a).2.2 = 0 then (if (ckR t b).2.2 = 0 then (fairI t a b, 0) else (0, (ckR t b).2.2)) else (0, (ckR t a).2.2)
end Go.Proofs.YtofbbkacihnjdaaDoor
