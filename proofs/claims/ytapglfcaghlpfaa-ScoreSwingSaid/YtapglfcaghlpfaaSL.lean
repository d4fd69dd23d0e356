/- A part of the proof that the last text ends: what functions of the program do, told by plain data. -/
import Derived.Test.YtapglfcaghlpfaaSJ
set_option linter.unusedVariables false
set_option linter.unusedSimpArgs false
namespace Go.Proofs.Ytapglfcaghlpfaa
open Go Go.E Go.Maps
set_option maxRecDepth 100000
set_option maxHeartbeats 16000000
def elR (r : Rul) (s : Ska) : Nat → Int
  | 0 => 0
  | k + 1 => elR r s k + valR r s k
def flR (s : Ska) : Nat → Nat
  | 0 => 0
  | k + 1 => flR s k + if (s.calls.getD k default).fall = true then 1 else 0
def paV (r : Rul) (p : List Int) : Int := rnd ((cnts p).1 * r.factor) (4 * (cnts p).2)
def paR (r : Rul) (s : Ska) : Nat → Int
  | 0 => 0
  | k + 1 => paR r s k + paV r (s.parts.getD k default)
def progR (r : Rul) (s : Ska) : Sco := ⟨elR r s s.calls.length, paR r s s.parts.length, off (flR s s.calls.length) s.over, max 0 (elR r s s.calls.length + paR r s s.parts.length - off (flR s s.calls.length) s.over)⟩
theorem valR_b {r : Rul} {s : Ska} {n : Int} (hv : Valid r s n) {i : Nat} (hi : i < s.calls.length) : -1000000000 ≤ valR r s i ∧ valR r s i ≤ 1000000000 := by
  obtain ⟨q1, ⟨q2, q3⟩, ⟨q4, q5⟩, ⟨q6, q7⟩, q8⟩ := hv.cat hi
  have hjn := hv.jn
  have hcb := cnts_b q7 (by omega) fun y hy => by have := q8 y hy; omega
  have hbs : 0 ≤ r.bases.getD (s.calls.getD i default).elem.toNat default ∧ r.bases.getD (s.calls.getD i default).elem.toNat default ≤ 2000 := by
    rw [at_lt (by omega)]; exact hv.base _ (List.getElem_mem _)
  unfold valR
  generalize s.calls.getD i default = x at *
  generalize r.bases.getD x.elem.toNat default = B at *
  generalize cnts x.marks = C at *
  have p1 := mul_b hbs.1 hbs.2 (show 0 ≤ 10 - 2 * x.under by omega) (show 10 - 2 * x.under ≤ 10 by omega)
  generalize B * (10 - 2 * x.under) = p at *
  have p2 := mul_c (a := C.1) (A := 11000) (by omega) hcb.1.1 hcb.1.2 p1.1 p1.2
  generalize C.1 * p = q at *
  have k2 := rnd_b (a := q) (b := 100 * C.2) (A := 220000000) (by omega) (by omega) (by omega)
  split
  · split
    · have k1 := rnd_b (a := p * 11) (b := 100) (A := 220000) (by omega) (by omega) (by omega)
      omega
    · have k1 := rnd_b (a := p * 10) (b := 100) (A := 220000) (by omega) (by omega) (by omega)
      omega
  · omega
theorem Valid.pat {r : Rul} {s : Ska} {n : Int} (h : Valid r s n) {i : Nat} (hi : i < s.parts.length) : (((s.parts.getD i default).length : Int) = n ∧ 1 ≤ (s.parts.getD i default).length) ∧ ∀ y ∈ s.parts.getD i default, 0 ≤ y ∧ y ≤ 40 := h.part _ (by rw [at_lt hi]; exact List.getElem_mem _)
theorem paV_q {r : Rul} {s : Ska} {n : Int} (hv : Valid r s n) {i : Nat} (hi : i < s.parts.length) : Mks (s.parts.getD i default) ∧ (1 ≤ (cnts (s.parts.getD i default)).2 ∧ (cnts (s.parts.getD i default)).2 ≤ 9) ∧ (-11000000 ≤ (cnts (s.parts.getD i default)).1 * r.factor ∧ (cnts (s.parts.getD i default)).1 * r.factor ≤ 11000000) ∧ -100000000 ≤ paV r (s.parts.getD i default) ∧ paV r (s.parts.getD i default) ≤ 100000000 := by
  obtain ⟨⟨q1, q2⟩, q3⟩ := hv.pat hi
  have hjn := hv.jn
  have hf := hv.factor
  have hmk : Mks (s.parts.getD i default) := Mks.of q2 (by omega) fun y hy => by have := q3 y hy; omega
  have hcb := cnts_b q2 (by omega) fun y hy => by have := q3 y hy; omega
  unfold paV
  generalize cnts (s.parts.getD i default) = C at *
  have p2 := mul_c (a := C.1) (A := 11000) (by omega) hcb.1.1 hcb.1.2 hf.1 hf.2
  generalize C.1 * r.factor = q at *
  have k2 := rnd_b (a := q) (b := 4 * C.2) (A := 11000000) (by omega) (by omega) (by omega)
  exact ⟨hmk, hcb.2, by omega, by omega⟩
end Go.Proofs.Ytapglfcaghlpfaa
