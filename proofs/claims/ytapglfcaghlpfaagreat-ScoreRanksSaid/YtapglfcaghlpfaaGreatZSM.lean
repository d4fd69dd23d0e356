/- A part of the proof that the last text ends: what functions of the program do, told by plain data. -/
import Derived.Test.YtapglfcaghlpfaaGreatZSL
set_option linter.unusedVariables false
set_option linter.unusedSimpArgs false
namespace Go.Proofs.YtapglfcaghlpfaaGreat
open Go Go.E Go.Maps
set_option maxRecDepth 100000
set_option maxHeartbeats 16000000
def one (s : Ska) : List Ska := [s]
theorem one_rows {s : Ska} : [s.c] = List.map Ska.c (one s) := rfl
theorem one_len {s : Ska} : (one s).length = 1 := rfl
theorem okN_all {r : Rul} {n : Int} {l : List Cal} : ∀ k i, okN r n l k i = true → ∀ j, i ≤ j → j < i + k → callOk r (l.getD j default) n = true
  | 0, i, _, j, h1, h2 => by omega
  | k + 1, i, h, j, h1, h2 => by
    unfold okN at h
    split at h
    · cases h
    · split at h
      · rename_i h3
        rcases Nat.lt_or_ge i j with h4 | h4
        · exact okN_all k (i + 1) h j (by omega) (by omega)
        · rw [show j = i by omega]; exact h3
      · cases h
theorem allB_el {l : List Int} {lo hi : Int} (h : allB l lo hi = true) : ∀ x ∈ l, lo ≤ x ∧ x ≤ hi := fun x hx => by
  unfold allB at h
  rw [List.all_eq_true] at h
  exact inB_iff.1 (h x hx)
theorem valid_of {r : Rul} {s : Ska} (h : conOk r (one s) = true) : ∃ n, Valid r s n := by
  have hj : jud (one s) = if 0 < s.calls.length then (((s.calls.getD 0 default).marks.length : Int), true) else if 0 < s.parts.length then ((s.parts.getD 0 default).length, true) else (0, false) := rfl
  unfold conOk at h
  simp only [Bool.and_eq_true] at h
  obtain ⟨⟨h1, h2⟩, h3⟩ := h
  unfold Rul.ok at h1
  simp only [Bool.and_eq_true, inB_iff] at h1
  obtain ⟨⟨⟨b1, b2⟩, b3⟩, b4⟩ := h1
  have h3 : skaOk r s (jud (one s)).1 = true := by
    unfold one at h3 ⊢
    simpa using h3
  have hn : (0 < s.calls.length ∨ 0 < s.parts.length) → 1 ≤ (jud (one s)).1 ∧ (jud (one s)).1 ≤ 9 := fun hh => by
    have h4 : (jud (one s)).2 = true := by
      rw [hj]
      split
      · rfl
      · split
        · rfl
        · omega
    rw [h4] at h2
    exact inB_iff.1 (by simpa using h2)
  have hn0 : 0 ≤ (jud (one s)).1 ∧ (jud (one s)).1 ≤ 9 := by
    by_cases hh : 0 < s.calls.length ∨ 0 < s.parts.length
    · have := hn hh; omega
    · rw [hj, if_neg (by omega), if_neg (by omega)]; simp
  generalize (jud (one s)).1 = n at h3 hn hn0
  unfold skaOk at h3
  simp only [Bool.and_eq_true, decide_eq_true_eq, inB_iff] at h3
  obtain ⟨⟨⟨⟨c1, c2⟩, c3⟩, c4⟩, c5⟩ := h3
  refine ⟨n, by omega, allB_el b2, b3, b4, hn0, c1, c2, c3, fun x hx => ?_, fun p hp => ?_⟩
  · obtain ⟨j, hj, rfl⟩ := List.getElem_of_mem hx
    have := okN_all _ _ c4 j (by omega) (by omega)
    rw [at_lt hj] at this
    unfold callOk marksOk at this
    simp only [Bool.and_eq_true, inB_iff, decide_eq_true_eq] at this
    obtain ⟨d1, d2, d3, d4, d5⟩ := this
    have := hn (.inl (by omega))
    exact ⟨d1, by omega, d3, ⟨d4, by omega⟩, allB_el d5⟩
  · unfold partsOk at c5
    rw [List.all_eq_true] at c5
    have := c5 p hp
    unfold marksOk at this
    simp only [Bool.and_eq_true, decide_eq_true_eq] at this
    have h6 : 0 < s.parts.length := List.length_pos_of_mem hp
    have := hn (.inr h6)
    rename_i d
    exact ⟨⟨d.1, by omega⟩, allB_el d.2⟩
def progG (r : Rul) (s : Ska) : Sco × Int := if conOk r (one s) = true then (progR r s, 0) else (⟨0, 0, 0, 0⟩, 1)
def valsR (r : Rul) (s : Ska) (k : Nat) : List Int := (List.range k).map (valR r s)
theorem valsR_len {r : Rul} {s : Ska} {k : Nat} : (valsR r s k).length = k := by unfold valsR; simp
end Go.Proofs.YtapglfcaghlpfaaGreat
