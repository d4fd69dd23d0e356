/- A part of the proof that the last text ends: what functions of the program do, told by plain data. -/
import Derived.Test.YtapglfcaghlpfaaVT
import Derived.Test.YtapglfcaghlpfaaVS
set_option linter.unusedVariables false
set_option linter.unusedSimpArgs false
namespace Go.Proofs.Ytapglfcaghlpfaa
open Go Go.E Go.Maps
set_option maxRecDepth 100000
structure UpP (r : Rul) (s s' : Ska) : Prop where
  len : s'.parts.length = s.parts.length
  num : ∀ i, i < s.parts.length → (cnts (s'.parts.getD i default)).2 = (cnts (s.parts.getD i default)).2
  sum : ∀ i, i < s.parts.length → (cnts (s.parts.getD i default)).1 ≤ (cnts (s'.parts.getD i default)).1
theorem paR_up {r : Rul} {s s' : Ska} {n : Int} (hv : Valid r s n) (h : UpP r s s') : ∀ k, k ≤ s.parts.length → paR r s k ≤ paR r s' k
  | 0, _ => Int.le_refl _
  | k + 1, hk => by
    have := paR_up hv h k (by omega)
    have hb := (paV_q hv (i := k) (by omega)).2.1
    have h2 : paV r (s.parts.getD k default) ≤ paV r (s'.parts.getD k default) := by
      unfold paV
      rw [h.num k (by omega)]
      exact rnd_mono (Int.mul_le_mul_of_nonneg_right (h.sum k (by omega)) hv.factor.1) (by omega)
    unfold paR; omega
theorem fl_same {s s' : Ska} (h : ∀ i, (s'.calls.getD i default).fall = (s.calls.getD i default).fall) : ∀ k, flR s' k = flR s k
  | 0 => rfl
  | k + 1 => by unfold flR; rw [fl_same h k, h k]
theorem prog_up {r : Rul} {s s' : Ska} {n : Int} (hv : Valid r s n) (h1 : UpS s s') (h2 : UpP r s s') (hf : ∀ i, (s'.calls.getD i default).fall = (s.calls.getD i default).fall) (ho : s'.over = s.over) :
    (progR r s).elements ≤ (progR r s').elements ∧ (progR r s).parts ≤ (progR r s').parts ∧ (progR r s).total ≤ (progR r s').total := by
  have e1 := elR_up hv h1 s.calls.length (Nat.le_refl _)
  have e2 := paR_up hv h2 s.parts.length (Nat.le_refl _)
  have e3 : off (flR s' s'.calls.length) s'.over = off (flR s s.calls.length) s.over := by rw [h1.len, fl_same hf, ho]
  unfold progR
  simp only
  rw [e3, h1.len, h2.len]
  exact ⟨e1, e2, by omega⟩
end Go.Proofs.Ytapglfcaghlpfaa
