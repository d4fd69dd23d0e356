/- A part of the proof that the last text ends: what functions of the program do, told by plain data. -/
import Derived.Test.YtapglfcaghlpfaaVT
import Derived.Test.YtapglfcaghlpfaaVS
set_option linter.unusedVariables false
set_option linter.unusedSimpArgs false
namespace Go.Proofs.Ytapglfcaghlpfaa
open Go Go.E Go.Maps
set_option maxRecDepth 100000
/-! ### Skatings that differ in marks alone -/
structure Alk (r : Rul) (s s' : Ska) : Prop where
  calls : s'.calls.length = s.calls.length
  parts : s'.parts.length = s.parts.length
  over : s'.over = s.over
  call : ∀ i, i < s.calls.length → ((s'.calls.getD i default).place = (s.calls.getD i default).place ∧ (s'.calls.getD i default).elem = (s.calls.getD i default).elem ∧ (s'.calls.getD i default).under = (s.calls.getD i default).under) ∧ (s'.calls.getD i default).marks.length = (s.calls.getD i default).marks.length ∧ ∀ y ∈ (s'.calls.getD i default).marks, -5 ≤ y ∧ y ≤ 5
  part : ∀ i, i < s.parts.length → (s'.parts.getD i default).length = (s.parts.getD i default).length ∧ ∀ y ∈ s'.parts.getD i default, 0 ≤ y ∧ y ≤ 40
theorem alk_ok {r : Rul} {s s' : Ska} (h : conOk r (one s) = true) (ha : Alk r s s') : conOk r (one s') = true := by
  have hv := con_valid h (s := s) (by simp [one])
  have hd := con_dup h (s := s) (by simp [one])
  refine conOk_mk (n := (jud (one s)).1) (con_ok h) ⟨hv.bases, hv.base, hv.factor, hv.most, hv.jn, by rw [ha.calls]; exact hv.calls, by rw [ha.parts]; exact hv.parts, by rw [ha.over]; exact hv.over, fun x hx => ?_, fun p hp => ?_⟩ ?_
  · obtain ⟨i, hi, rfl⟩ := List.getElem_of_mem hx
    have hi' : i < s.calls.length := by rw [← ha.calls]; exact hi
    obtain ⟨⟨k1, k2, k3⟩, k4, k5⟩ := ha.call i hi'
    obtain ⟨d1, d2, d3, d4, _⟩ := hv.cat hi'
    rw [at_lt hi] at k1 k2 k3 k4 k5
    rw [k1, k2, k3, k4]
    exact ⟨d1, d2, d3, d4, k5⟩
  · obtain ⟨i, hi, rfl⟩ := List.getElem_of_mem hp
    have hi' : i < s.parts.length := by rw [← ha.parts]; exact hi
    obtain ⟨k4, k5⟩ := ha.part i hi'
    have d := (hv.part (s.parts.getD i default) (by rw [at_lt hi']; exact List.getElem_mem _)).1
    rw [at_lt hi] at k4 k5
    rw [k4]
    exact ⟨d, k5⟩
  · have e : s'.calls.map Cal.place = s.calls.map Cal.place := by
      apply List.ext_getElem (by rw [List.length_map, List.length_map, ha.calls])
      intro i h1 h2
      rw [List.length_map] at h1 h2
      have := (ha.call i h2).1.1
      rw [at_lt h1, at_lt h2] at this
      rw [List.getElem_map, List.getElem_map, this]
    rw [e]; exact hd
structure UpP (r : Rul) (s s' : Ska) : Prop where
  len : s'.parts.length = s.parts.length
  num : ∀ i, i < s.parts.length → (cnts (s'.parts.getD i default)).2 = (cnts (s.parts.getD i default)).2
  sum : ∀ i, i < s.parts.length → (cnts (s.parts.getD i default)).1 ≤ (cnts (s'.parts.getD i default)).1
theorem paR_up {r : Rul} {s s' : Ska} {n : Int} (hv : Valid r s n) (h : UpP r s s') : ∀ k, k ≤ s.parts.length → paR r s k ≤ paR r s' k
  | 0, _ => Int.le_refl _
  | k + 1, hk => by
    have := paR_up hv h k (by omega)
    have hb := (paV_q hv (i := k) (by omega)).2.1
    have h2 : paV r (s.parts.getD k default) ≤ paV r (s'.parts.getD k default) := by
      unfold paV
      rw [h.num k (by omega)]
      exact rnd_mono (Int.mul_le_mul_of_nonneg_right (h.sum k (by omega)) hv.factor.1) (by omega)
    unfold paR; omega
theorem fl_same {s s' : Ska} (h : ∀ i, (s'.calls.getD i default).fall = (s.calls.getD i default).fall) : ∀ k, flR s' k = flR s k
  | 0 => rfl
  | k + 1 => by unfold flR; rw [fl_same h k, h k]
theorem prog_up {r : Rul} {s s' : Ska} {n : Int} (hv : Valid r s n) (h1 : UpS s s') (h2 : UpP r s s') (hf : ∀ i, (s'.calls.getD i default).fall = (s.calls.getD i default).fall) (ho : s'.over = s.over) :
    (progR r s).elements ≤ (progR r s').elements ∧ (progR r s).parts ≤ (progR r s').parts ∧ (progR r s).total ≤ (progR r s').total := by
  have e1 := elR_up hv h1 s.calls.length (Nat.le_refl _)
  have e2 := paR_up hv h2 s.parts.length (Nat.le_refl _)
  have e3 : off (flR s' s'.calls.length) s'.over = off (flR s s.calls.length) s.over := by rw [h1.len, fl_same hf, ho]
  unfold progR
  simp only
  rw [e3, h1.len, h2.len]
  exact ⟨e1, e2, by omega⟩
end Go.Proofs.Ytapglfcaghlpfaa
