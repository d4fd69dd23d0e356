/- A part of the proof that the last text ends: what functions of the program do, told by plain data. -/
import Derived.Test.YtofbbkacihnjdaaDoorHCl
set_option linter.unusedVariables false
set_option linter.unusedSimpArgs false
namespace Go.Proofs.YtofbbkacihnjdaaDoor
open Go Go.E Go.ChangeShapes Go.WideShapes Go.ChangeAt Go.RowKit Go.Maps
theorem un40 : Tryd.prog.underlying 40 = some (.slice 5) := by kernel_rfl
theorem sh40 : sh Tryd.prog 9 40 = some [.sl [.leaf (.int .u8)]] := by kernel_rfl
theorem u8_of {n : Int} (h : (Lit.int .u8 n).wf = true) : 0 ≤ n ∧ n ≤ 255 := by simp [Lit.wf, IntKind.min, IntKind.max, IntKind.signed, IntKind.bits] at h; omega
theorem u8s_of : ∀ {rows : List (List D)}, (∀ x ∈ rows, shDs [.leaf (.int .u8)] x) → ∃ (l : List Int) (_ : ∀ b ∈ l, 0 ≤ b ∧ b ≤ 255), rows = l.map bc
  | [], _ => ⟨[], by simp, rfl⟩
  | r :: rs, h => by
    obtain ⟨l, hb, hl⟩ := u8s_of (rows := rs) fun y hy => h y (by simp [hy])
    have hr := h r (by simp)
    match r, hr with
    | [.v (.int _ a)], ⟨⟨h1, hw⟩, _⟩ =>
      subst h1
      refine ⟨a :: l, fun x hx => ?_, by rw [hl]; rfl⟩
      rcases List.mem_cons.1 hx with rfl | hx
      · exact u8_of hw
      · exact hb x hx
end Go.Proofs.YtofbbkacihnjdaaDoor
