/- A part of the proof that the last text ends: what functions of the program do, told by plain data. -/
import Derived.Test.YtapglfcaghlpfaaVD
set_option linter.unusedVariables false
set_option linter.unusedSimpArgs false
namespace Go.Proofs.Ytapglfcaghlpfaa
open Go Go.E Go.Maps
set_option maxRecDepth 100000
/-! ### What makes a contest of one skating -/
theorem okN_mk {r : Rul} {n : Int} {l : List Cal} : ∀ k i, (∀ j, i ≤ j → j < i + k → dupB l j = false ∧ callOk r (l.getD j default) n = true) → okN r n l k i = true
  | 0, _, _ => rfl
  | k + 1, i, h => by
    have h1 := h i (Nat.le_refl _) (by omega)
    unfold okN
    rw [if_neg (by rw [h1.1]; simp), if_pos h1.2]
    exact okN_mk k (i + 1) fun j hj hk => h j (by omega) (by omega)
theorem dup_nd {l : List Cal} (h : (l.map Cal.place).Nodup) {i : Nat} (hi : i < l.length) : dupB l i = false := by
  unfold dupB
  rw [List.any_eq_false]
  intro y hy
  obtain ⟨m, hm, e⟩ := List.getElem_of_mem hy
  have hm' : m < i := by have := hm; rw [List.length_take] at this; omega
  rw [List.getElem_take] at e
  simp only [decide_eq_true_eq]
  intro hp
  rw [at_lt hi, ← e] at hp
  have h1 := List.getElem_inj (i := m) (j := i) (h₀ := by rw [List.length_map]; omega) (h₁ := by rw [List.length_map]; omega) h
  rw [List.getElem_map, List.getElem_map] at h1
  have := h1.1 hp
  omega
theorem marksOk_mk {l : List Int} {n lo hi : Int} (h1 : (l.length : Int) = n) (h2 : ∀ y ∈ l, lo ≤ y ∧ y ≤ hi) : marksOk l n lo hi = true := by
  unfold marksOk allB
  simp only [Bool.and_eq_true, decide_eq_true_eq, List.all_eq_true, inB_iff]
  exact ⟨h1, h2⟩
theorem conOk_mk {r : Rul} {s : Ska} {n : Int} (hr : r.ok = true) (hv : Valid r s n) (hd : (s.calls.map Cal.place).Nodup) : conOk r (one s) = true := by
  have hj : jud (one s) = if 0 < s.calls.length then (((s.calls.getD 0 default).marks.length : Int), true) else if 0 < s.parts.length then ((s.parts.getD 0 default).length, true) else (0, false) := rfl
  have hall : ∀ m : Int, (0 < s.calls.length ∨ 0 < s.parts.length → m = n) → skaOk r s m = true := fun m hm => by
    unfold skaOk
    simp only [Bool.and_eq_true, decide_eq_true_eq, inB_iff]
    refine ⟨⟨⟨⟨hv.calls, hv.parts⟩, hv.over⟩, okN_mk _ _ fun j _ hj => ⟨dup_nd hd (by omega), ?_⟩⟩, ?_⟩
    · obtain ⟨d1, d2, d3, d4, d5⟩ := hv.cat (i := j) (by omega)
      unfold callOk
      simp only [Bool.and_eq_true, inB_iff]
      exact ⟨d1, by omega, d3, marksOk_mk (by rw [hm (.inl (by omega))]; exact d4.1) d5⟩
    · unfold partsOk
      rw [List.all_eq_true]
      intro p hp
      have := hv.part p hp
      exact marksOk_mk (by rw [hm (.inr (List.length_pos_of_mem hp))]; exact this.1.1) this.2
  unfold conOk
  simp only [Bool.and_eq_true]
  refine ⟨⟨hr, ?_⟩, ?_⟩
  · rw [hj]
    split
    · rename_i h
      have := (hv.cat (i := 0) h).2.2.2.1
      have := hv.jn
      simp only [Bool.not_true, Bool.false_or]
      rw [inB_iff]; omega
    · split
      · rename_i h
        have := (hv.part (s.parts.getD 0 default) (by rw [at_lt h]; exact List.getElem_mem _)).1
        have := hv.jn
        simp only [Bool.not_true, Bool.false_or]
        rw [inB_iff]; omega
      · rfl
  · unfold one
    simp only [List.all_cons, List.all_nil, Bool.and_true]
    refine hall _ fun h => ?_
    show (jud (one s)).1 = n
    rw [hj]
    split
    · rename_i h
      exact (hv.cat (i := 0) h).2.2.2.1.1
    · rw [if_pos (by omega)]
      rename_i h1
      have h2 : 0 < s.parts.length := by omega
      exact (hv.part (s.parts.getD 0 default) (by rw [at_lt h2]; exact List.getElem_mem _)).1.1
theorem con_ok {r : Rul} {l : List Ska} (h : conOk r l = true) : r.ok = true := by
  unfold conOk at h
  simp only [Bool.and_eq_true] at h
  exact h.1.1
/-! ### Later, with one more fall, with a higher mark -/
def callS (s : Ska) (k : Nat) (c : Cal) : Ska := { s with calls := s.calls.set k c }
end Go.Proofs.Ytapglfcaghlpfaa
