/- A part of the proof that the last text ends: what functions of the program do, told by plain data. -/
import Derived.Test.YtkanibdihhlmgaaAZ
import Derived.Test.YtkanibdihhlmgaaAL4
set_option linter.unusedVariables false
set_option linter.unusedSimpArgs false
namespace Go.Proofs.Ytkanibdihhlmgaa
open Go Go.E Go.ChangeShapes Go.WideShapes Go.ChangeAt Go.RowKit Go.Maps
theorem un51 : Try.prog.underlying 51 = some (.slice 61) := by kernel_rfl
theorem fl61 : fl Try.prog 9 61 = some [.int .i64, .int .i64, .int .i64] := by kernel_rfl
theorem snf_of {ds : List D} (h : leafD [.int .i64, .int .i64, .int .i64] ds) : ∃ s : Snf, ds = s.c := by
  match ds, h with
  | [.v (.int _ a), .v (.int _ b), .v (.int _ c)], ⟨⟨h1, _⟩, ⟨h2, _⟩, ⟨h3, _⟩, _⟩ =>
    subst h1; subst h2; subst h3
    exact ⟨⟨a, b, c⟩, rfl⟩
theorem snfs_of : ∀ {rows : List (List D)}, (∀ x ∈ rows, leafD [.int .i64, .int .i64, .int .i64] x) → ∃ l : List Snf, rows = l.map Snf.c
  | [], _ => ⟨[], rfl⟩
  | r :: rs, h => by
    obtain ⟨x, hx⟩ := snf_of (h r (by simp))
    obtain ⟨l, hl⟩ := snfs_of (rows := rs) fun y hy => h y (by simp [hy])
    exact ⟨x :: l, by rw [hx, hl]; rfl⟩
end Go.Proofs.Ytkanibdihhlmgaa
