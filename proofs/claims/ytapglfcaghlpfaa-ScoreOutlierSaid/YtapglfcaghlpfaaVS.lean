/- A part of the proof that the last text ends: what functions of the program do, told by plain data. -/
import Derived.Test.YtapglfcaghlpfaaVR
set_option linter.unusedVariables false
set_option linter.unusedSimpArgs false
namespace Go.Proofs.Ytapglfcaghlpfaa
open Go Go.E Go.Maps
set_option maxRecDepth 100000
set_option maxHeartbeats 16000000
/-! ### A skating with the others' ends -/
def toC (j : Nat) (most : Bool) (c : Cal) : Cal := { c with marks := endL c.marks j most }
def toP (j : Nat) (most : Bool) (p : List Int) : List Int := endL p j most
def toS (s : Ska) (j : Nat) (most : Bool) : Ska := ⟨s.calls.map (toC j most), s.parts.map (toP j most), s.over⟩
theorem tk2_succ {α β : Type} [Inhabited α] {f : α → β} {l : List α} {k : Nat} (hk : k < l.length) : (l.take (k + 1)).map f = (l.take k).map f ++ [f (l.getD k default)] := by
  rw [List.take_succ_eq_append_getElem hk, List.map_append, at_lt hk]; rfl
end Go.Proofs.Ytapglfcaghlpfaa
