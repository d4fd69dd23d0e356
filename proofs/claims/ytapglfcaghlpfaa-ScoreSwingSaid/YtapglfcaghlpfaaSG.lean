/- A part of the proof that the last text ends: what functions of the program do, told by plain data. -/
import Derived.Test.YtapglfcaghlpfaaSF
set_option linter.unusedVariables false
set_option linter.unusedSimpArgs false
namespace Go.Proofs.Ytapglfcaghlpfaa
open Go Go.E Go.Maps
set_option maxRecDepth 100000
set_option maxHeartbeats 16000000
def csum (l : List Int) : Nat → Int
  | 0 => 0
  | k + 1 => csum l k + l.getD k default
def cmax (l : List Int) : Nat → Int
  | 0 => l.getD 0 default
  | k + 1 => max (cmax l k) (l.getD k default)
def cmin (l : List Int) : Nat → Int
  | 0 => l.getD 0 default
  | k + 1 => min (cmin l k) (l.getD k default)
def cnts (l : List Int) : Int × Int := if 5 ≤ (l.length : Int) then (csum l l.length - cmax l l.length - cmin l l.length, l.length - 2) else (csum l l.length, l.length)
structure Mks (l : List Int) : Prop where
  len : 1 ≤ l.length ∧ l.length ≤ 1000
  el : ∀ x ∈ l, -1000 ≤ x ∧ x ≤ 1000
theorem Mks.at {l : List Int} (h : Mks l) {i : Nat} (hi : i < l.length) : -1000 ≤ l.getD i default ∧ l.getD i default ≤ 1000 := by
  rw [at_lt hi]; exact h.el _ (List.getElem_mem _)
theorem c_b {l : List Int} (h : Mks l) : ∀ k, k ≤ l.length → (-1000 * (k : Int) ≤ csum l k ∧ csum l k ≤ 1000 * k) ∧ (-1000 ≤ cmax l k ∧ cmax l k ≤ 1000) ∧ -1000 ≤ cmin l k ∧ cmin l k ≤ 1000
  | 0, _ => by
    have := h.at (i := 0) (by have := h.len; omega)
    unfold csum cmax cmin; omega
  | k + 1, hk => by
    have ih := c_b h k (by omega)
    have := h.at (i := k) (by omega)
    unfold csum cmax cmin; omega
end Go.Proofs.Ytapglfcaghlpfaa
