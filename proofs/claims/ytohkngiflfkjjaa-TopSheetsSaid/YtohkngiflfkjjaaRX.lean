/- A part of the proof that the last text ends: what functions of the program do, told by plain data. -/
import Derived.Test.YtohkngiflfkjjaaRW
import Derived.Test.YtohkngiflfkjjaaEc
import Derived.Test.YtohkngiflfkjjaaRows
import Derived.OpenShut
import Derived.ShutString
import Derived.ChangeOld
set_option linter.unusedVariables false
set_option linter.unusedSimpArgs false
namespace Go.Proofs.Ytohkngiflfkjjaa
open Go Go.E Go.ChangeShapes Go.WideShapes Go.ChangeAt Go.RowKit Go.Maps
theorem own : ownKnob Try.prog.godebug = none := by kernel_rfl
theorem un4 : Try.prog.underlying 4 = some .bool := by kernel_rfl
theorem un26 : Try.prog.underlying 26 = some (.slice 30) := by kernel_rfl
theorem wf_i64 {n : Int} (h : (Lit.int .i64 n).wf = true) : i64 n := by
  simp [Lit.wf, IntKind.min, IntKind.max, IntKind.signed, IntKind.bits] at h; unfold i64; omega
abbrev shInt : List Sh := [.leaf (.int .i64)]
abbrev shEv : List Sh := [.leaf (.int .i64), .leaf (.int .i64), .leaf (.int .i64), .leaf (.int .i64), .sl shInt]
theorem sh26 : sh Try.prog 9 26 = some [.sl shEv] := by kernel_rfl
theorem ints_of : ∀ {rows : List (List D)}, (∀ x ∈ rows, shDs shInt x) → ∃ l : List Int, rows = l.map ic ∧ ∀ x ∈ l, i64 x
  | [], _ => ⟨[], rfl, by simp⟩
  | r :: rs, h => by
    obtain ⟨l, hl, hb⟩ := ints_of (rows := rs) fun y hy => h y (by simp [hy])
    have hr := h r (by simp)
    match r, hr with
    | [.v (.int _ a)], ⟨⟨h1, hw⟩, _⟩ =>
      subst h1
      refine ⟨a :: l, by rw [hl]; rfl, fun x hx => ?_⟩
      rcases List.mem_cons.1 hx with rfl | hx
      · exact wf_i64 hw
      · exact hb x hx
theorem ev_of {ds : List D} (h : shDs shEv ds) : ∃ x : Ev, ds = x.c := by
  match ds, h with
  | [.v (.int _ a), .v (.int _ b), .v (.int _ c), .v (.int _ d), .sl sz rows], ⟨⟨h1, _⟩, ⟨h2, _⟩, ⟨h3, _⟩, ⟨h5, _⟩, ⟨h0, h4⟩, _⟩ =>
    subst h1; subst h2; subst h3; subst h5; subst h0
    obtain ⟨l, rfl, _⟩ := ints_of h4
    exact ⟨⟨a, b, c, d, l⟩, rfl⟩
theorem evs_of : ∀ {rows : List (List D)}, (∀ x ∈ rows, shDs shEv x) → ∃ l : List Ev, rows = l.map Ev.c
  | [], _ => ⟨[], rfl⟩
  | r :: rs, h => by
    obtain ⟨x, hx⟩ := ev_of (h r (by simp))
    obtain ⟨l, hl⟩ := evs_of (rows := rs) fun y hy => h y (by simp [hy])
    exact ⟨x :: l, by rw [hx, hl]; rfl⟩
end Go.Proofs.Ytohkngiflfkjjaa
