/- A part of the proof that the last text ends: what functions of the program do, told by plain data. -/
import Derived.Test.YtkanibdihhlmgaaTFA
import Derived.Test.YtkanibdihhlmgaaAA
import Derived.Test.YtkanibdihhlmgaaEc
import Derived.Test.YtkanibdihhlmgaaRows
import Derived.OpenShut
import Derived.ShutString
import Derived.ChangeOld
set_option linter.unusedVariables false
set_option linter.unusedSimpArgs false
namespace Go.Proofs.Ytkanibdihhlmgaa
open Go Go.E Go.ChangeShapes Go.WideShapes Go.ChangeAt Go.RowKit Go.Maps
theorem own : ownKnob Try.prog.godebug = none := by kernel_rfl
theorem laid : laidOutB Try.prog = true := by kernel_rfl
theorem un3 : Try.prog.underlying 3 = some (.int .i64) := by kernel_rfl
theorem un4 : Try.prog.underlying 4 = some .bool := by kernel_rfl
theorem un5 : Try.prog.underlying 5 = some (.int .u8) := by kernel_rfl
theorem u8_of {n : Int} (h : (Lit.int .u8 n).wf = true) : 0 ≤ n ∧ n ≤ 255 := by simp [Lit.wf, IntKind.min, IntKind.max, IntKind.signed, IntKind.bits] at h; omega
theorem un42 : Try.prog.underlying 42 = some (.int .u32) := by kernel_rfl
theorem u32_of {n : Int} (h : (Lit.int .u32 n).wf = true) : 0 ≤ n ∧ n ≤ 4294967295 := by simp [Lit.wf, IntKind.min, IntKind.max, IntKind.signed, IntKind.bits] at h; omega
theorem un24 : Try.prog.underlying 24 = some (.struct (Try.prog.fieldsOf 24)) := by kernel_rfl
abbrev shSen : List Sh := [.leaf (.int .i64), .leaf (.int .i64), .leaf (.int .i64)]
theorem sh24 : sh Try.prog 9 24 = some [.sl shSen, .leaf (.int .i64), .leaf (.int .i64)] := by kernel_rfl
theorem sen_of {ds : List D} (h : shDs shSen ds) : ∃ s : Sen, ds = s.c := by
  match ds, h with
  | [.v (.int _ a), .v (.int _ b), .v (.int _ c)], ⟨⟨h1, _⟩, ⟨h2, _⟩, ⟨h3, _⟩, _⟩ =>
    subst h1; subst h2; subst h3
    exact ⟨⟨a, b, c⟩, rfl⟩
theorem sens_of : ∀ {rows : List (List D)}, (∀ x ∈ rows, shDs shSen x) → ∃ l : List Sen, rows = l.map Sen.c
  | [], _ => ⟨[], rfl⟩
  | r :: rs, h => by
    obtain ⟨x, hx⟩ := sen_of (h r (by simp))
    obtain ⟨l, hl⟩ := sens_of (rows := rs) fun y hy => h y (by simp [hy])
    exact ⟨x :: l, by rw [hx, hl]; rfl⟩
theorem vot_of {ds : List D} (h : shDs [.sl shSen, .leaf (.int .i64), .leaf (.int .i64)] ds) : ∃ (l : List Sen) (vo fa : Int), ds = [.sl 3 (l.map Sen.c), .i vo, .i fa] := by
  match ds, h with
  | [.sl sz rows, .v (.int _ a), .v (.int _ b)], ⟨⟨h0, h4⟩, ⟨h1, _⟩, ⟨h2, _⟩, _⟩ =>
    subst h1; subst h2; subst h0
    obtain ⟨l, rfl⟩ := sens_of h4
    exact ⟨l, a, b, rfl⟩
end Go.Proofs.Ytkanibdihhlmgaa
