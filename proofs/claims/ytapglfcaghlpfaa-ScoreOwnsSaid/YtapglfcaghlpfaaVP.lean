/- A part of the proof that the last text ends: what functions of the program do, told by plain data. -/
import Derived.Test.YtapglfcaghlpfaaVI
set_option linter.unusedVariables false
set_option linter.unusedSimpArgs false
namespace Go.Proofs.Ytapglfcaghlpfaa
open Go Go.E Go.ChangeShapes Go.WideShapes Go.ChangeAt Go.RowKit Go.Maps
theorem un31 : Try.prog.underlying 31 = some (.slice 28) := by kernel_rfl
theorem sh31 : sh Try.prog 9 31 = some [.sl shSka] := by kernel_rfl
theorem skas_of : ∀ {rows : List (List D)}, (∀ x ∈ rows, shDs shSka x) → ∃ (l : List Ska) (_ : ∀ s ∈ l, ∀ x ∈ s.calls, i64 x.place), rows = l.map Ska.c
  | [], _ => ⟨[], fun s hs => absurd hs (List.not_mem_nil), rfl⟩
  | r :: rs, h => by
    obtain ⟨s, hs, e⟩ := ska_of (h r (by simp))
    obtain ⟨l, hl, hr⟩ := skas_of (rows := rs) fun y hy => h y (by simp [hy])
    refine ⟨s :: l, fun z hz => ?_, by rw [e, hr]; rfl⟩
    rcases List.mem_cons.1 hz with rfl | hz
    · exact hs
    · exact hl z hz
end Go.Proofs.Ytapglfcaghlpfaa
