/- A part of the proof that the last text ends: what functions of the program do, told by plain data. -/
import Derived.Test.YtkanibdihhlmgaaAZ
import Derived.Test.YtkanibdihhlmgaaAV
set_option linter.unusedVariables false
set_option linter.unusedSimpArgs false
namespace Go.Proofs.Ytkanibdihhlmgaa
open Go Go.E Go.ChangeShapes Go.WideShapes Go.ChangeAt Go.RowKit Go.Maps
theorem un46 : Try.prog.underlying 46 = some (.int .u16) := by kernel_rfl
theorem un47 : Try.prog.underlying 47 = some (.slice 42) := by kernel_rfl
theorem fl42 : fl Try.prog 9 42 = some [.int .u32] := by kernel_rfl
theorem nat_of {ds : List D} (h : leafD [.int .u32] ds) : ∃ n : Int, ds = u32c n ∧ (Lit.int .u32 n).wf = true := by
  match ds, h with
  | [.v (.int _ a)], ⟨⟨h1, h2⟩, _⟩ =>
    subst h1
    exact ⟨a, rfl, h2⟩
theorem nats_of : ∀ {rows : List (List D)}, (∀ x ∈ rows, leafD [.int .u32] x) → ∃ l : List Int, rows = l.map u32c ∧ ∀ x ∈ l, (Lit.int .u32 x).wf = true
  | [], _ => ⟨[], rfl, by simp⟩
  | r :: rs, h => by
    obtain ⟨x, hx, hw⟩ := nat_of (h r (by simp))
    obtain ⟨l, hl, hlw⟩ := nats_of (rows := rs) fun y hy => h y (by simp [hy])
    exact ⟨x :: l, by rw [hx, hl]; rfl, by simpa using ⟨hw, hlw⟩⟩
end Go.Proofs.Ytkanibdihhlmgaa
