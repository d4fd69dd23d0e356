/- A part of the proof that the last text ends: what functions of the program do, told by plain data. -/
import Derived.Test.YtohkngiflfkjjaaRX
import Derived.Test.YtohkngiflfkjjaaLA
set_option linter.unusedVariables false
set_option linter.unusedSimpArgs false
namespace Go.Proofs.Ytohkngiflfkjjaa
open Go Go.E Go.ChangeShapes Go.WideShapes Go.ChangeAt Go.RowKit Go.Maps
theorem un25 : Try.prog.underlying 25 = some (.struct (Try.prog.fieldsOf 25)) := by kernel_rfl
abbrev shGam : List Sh := [.leaf (.int .i64), .leaf (.int .i64), .leaf (.int .i64), .leaf (.int .i64), .leaf (.int .i64), .leaf (.int .i64)]
abbrev shLea : List Sh := [.sl [.sl shInt], .sl shGam]
theorem sh25 : sh Try.prog 9 25 = some shLea := by kernel_rfl
theorem gam_of {ds : List D} (h : shDs shGam ds) : ∃ x : Gam, ds = x.c := by
  match ds, h with
  | [.v (.int _ a), .v (.int _ b), .v (.int _ c), .v (.int _ d), .v (.int _ e), .v (.int _ f)], ⟨⟨h1, _⟩, ⟨h2, _⟩, ⟨h3, _⟩, ⟨h4, _⟩, ⟨h5, _⟩, ⟨h6, _⟩, _⟩ =>
    subst h1; subst h2; subst h3; subst h4; subst h5; subst h6
    exact ⟨⟨a, b, c, d, e, f⟩, rfl⟩
theorem gams_of : ∀ {rows : List (List D)}, (∀ x ∈ rows, shDs shGam x) → ∃ l : List Gam, rows = l.map Gam.c
  | [], _ => ⟨[], rfl⟩
  | r :: rs, h => by
    obtain ⟨x, hx⟩ := gam_of (h r (by simp))
    obtain ⟨l, hl⟩ := gams_of (rows := rs) fun y hy => h y (by simp [hy])
    exact ⟨x :: l, by rw [hx, hl]; rfl⟩
theorem pcs_of : ∀ {rows : List (List D)}, (∀ x ∈ rows, shDs [.sl shInt] x) → ∃ l : List (List Int), rows = l.map pc
  | [], _ => ⟨[], rfl⟩
  | r :: rs, h => by
    obtain ⟨l, hl⟩ := pcs_of (rows := rs) fun y hy => h y (by simp [hy])
    have hr := h r (by simp)
    match r, hr with
    | [.sl sz rows], ⟨⟨h0, h4⟩, _⟩ =>
      subst h0
      obtain ⟨k, rfl, _⟩ := ints_of h4
      exact ⟨k :: l, by rw [hl]; rfl⟩
theorem lea_of {ds : List D} (h : shDs shLea ds) : ∃ x : Lea, ds = x.c := by
  match ds, h with
  | [.sl sz rows, .sl sy rowt], ⟨⟨h0, h4⟩, ⟨h1, h5⟩, _⟩ =>
    subst h0; subst h1
    obtain ⟨l, rfl⟩ := pcs_of h4
    obtain ⟨k, rfl⟩ := gams_of h5
    exact ⟨⟨l, k⟩, rfl⟩
end Go.Proofs.Ytohkngiflfkjjaa
