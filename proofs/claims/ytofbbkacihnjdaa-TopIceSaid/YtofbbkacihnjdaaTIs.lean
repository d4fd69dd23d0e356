/- A part of the proof that the last text ends: what functions of the program do, told by plain data. -/
import Derived.Test.YtofbbkacihnjdaaTIr
import Derived.Test.YtofbbkacihnjdaaEc
import Derived.Test.YtofbbkacihnjdaaRows
import Derived.OpenShut
import Derived.ShutString
import Derived.ChangeOld
set_option linter.unusedVariables false
set_option linter.unusedSimpArgs false
namespace Go.Proofs.Ytofbbkacihnjdaa
open Go Go.E Go.ChangeShapes Go.WideShapes Go.ChangeAt Go.RowKit Go.Maps
set_option maxRecDepth 100000
theorem own : ownKnob Try.prog.godebug = none := by kernel_rfl
theorem un3 : Try.prog.underlying 3 = some (.int .i64) := by kernel_rfl
theorem un4 : Try.prog.underlying 4 = some .bool := by kernel_rfl
theorem un25 : Try.prog.underlying 25 = some (.struct (Try.prog.fieldsOf 25)) := by kernel_rfl
theorem un26 : Try.prog.underlying 26 = some (.slice 49) := by kernel_rfl
theorem un28 : Try.prog.underlying 28 = some (.struct (Try.prog.fieldsOf 28)) := by kernel_rfl
abbrev shHr : List Sh := [.leaf (.int .i64), .leaf (.int .i64), .leaf (.int .i64)]
abbrev shGr : List Sh := [.leaf (.int .i64), .leaf (.int .i64), .leaf (.int .i64), .leaf (.int .i64), .leaf (.int .i64)]
abbrev shTt : List Sh := [.sl shHr, .sl shGr, .leaf (.int .i64)]
abbrev shPn : List Sh := [.leaf (.int .i64), .leaf (.int .i64)]
abbrev shZo : List Sh := [.leaf (.int .i64), .leaf (.int .i64), .leaf (.int .i64), .leaf (.int .i64)]
theorem sh25 : sh Try.prog 9 25 = some shTt := by kernel_rfl
theorem sh26 : sh Try.prog 9 26 = some [.sl shZo] := by kernel_rfl
theorem sh28 : sh Try.prog 9 28 = some shPn := by kernel_rfl
theorem hr_of {ds : List D} (h : shDs shHr ds) : ∃ x : Hr, ds = x.c := by
  match ds, h with
  | [.v (.int _ a), .v (.int _ b), .v (.int _ c)], ⟨⟨h1, _⟩, ⟨h2, _⟩, ⟨h3, _⟩, _⟩ =>
    subst h1; subst h2; subst h3
    exact ⟨⟨a, b, c⟩, rfl⟩
theorem gr_of {ds : List D} (h : shDs shGr ds) : ∃ x : Gr, ds = x.c := by
  match ds, h with
  | [.v (.int _ a), .v (.int _ b), .v (.int _ c), .v (.int _ d), .v (.int _ e)], ⟨⟨h1, _⟩, ⟨h2, _⟩, ⟨h3, _⟩, ⟨h4, _⟩, ⟨h5, _⟩, _⟩ =>
    subst h1; subst h2; subst h3; subst h4; subst h5
    exact ⟨⟨a, b, c, d, e⟩, rfl⟩
theorem hrs_of : ∀ {rows : List (List D)}, (∀ x ∈ rows, shDs shHr x) → ∃ l : List Hr, rows = l.map Hr.c
  | [], _ => ⟨[], rfl⟩
  | r :: rs, h => by
    obtain ⟨x, hx⟩ := hr_of (h r (by simp))
    obtain ⟨l, hl⟩ := hrs_of (rows := rs) fun y hy => h y (by simp [hy])
    exact ⟨x :: l, by rw [hx, hl]; rfl⟩
theorem grs_of : ∀ {rows : List (List D)}, (∀ x ∈ rows, shDs shGr x) → ∃ l : List Gr, rows = l.map Gr.c
  | [], _ => ⟨[], rfl⟩
  | r :: rs, h => by
    obtain ⟨x, hx⟩ := gr_of (h r (by simp))
    obtain ⟨l, hl⟩ := grs_of (rows := rs) fun y hy => h y (by simp [hy])
    exact ⟨x :: l, by rw [hx, hl]; rfl⟩
theorem tt_of {ds : List D} (h : shDs shTt ds) : ∃ x : Tt, ds = x.c := by
  match ds, h with
  | [.sl sz rows, .sl sy rowt, .v (.int _ r)], ⟨⟨h0, h4⟩, ⟨h1, h5⟩, ⟨h2, _⟩, _⟩ =>
    subst h0; subst h1; subst h2
    obtain ⟨l, rfl⟩ := hrs_of h4
    obtain ⟨k, rfl⟩ := grs_of h5
    exact ⟨⟨l, k, r⟩, rfl⟩
theorem pn_of {ds : List D} (h : shDs shPn ds) : ∃ x : Pn, ds = x.c := by
  match ds, h with
  | [.v (.int _ a), .v (.int _ b)], ⟨⟨h1, _⟩, ⟨h2, _⟩, _⟩ =>
    subst h1; subst h2
    exact ⟨⟨a, b⟩, rfl⟩
theorem zo_of {ds : List D} (h : shDs shZo ds) : ∃ x : Zo, ds = x.c := by
  match ds, h with
  | [.v (.int _ a), .v (.int _ b), .v (.int _ c), .v (.int _ d)], ⟨⟨h1, _⟩, ⟨h2, _⟩, ⟨h3, _⟩, ⟨h4, _⟩, _⟩ =>
    subst h1; subst h2; subst h3; subst h4
    exact ⟨⟨⟨a, b⟩, ⟨c, d⟩⟩, rfl⟩
theorem zos_of : ∀ {rows : List (List D)}, (∀ x ∈ rows, shDs shZo x) → ∃ l : List Zo, rows = l.map Zo.c
  | [], _ => ⟨[], rfl⟩
  | r :: rs, h => by
    obtain ⟨x, hx⟩ := zo_of (h r (by simp))
    obtain ⟨l, hl⟩ := zos_of (rows := rs) fun y hy => h y (by simp [hy])
    exact ⟨x :: l, by rw [hx, hl]; rfl⟩
end Go.Proofs.Ytofbbkacihnjdaa
