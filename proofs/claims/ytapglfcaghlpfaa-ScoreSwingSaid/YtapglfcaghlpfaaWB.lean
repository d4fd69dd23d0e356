/- A part of the proof that the last text ends: what functions of the program do, told by plain data. -/
import Derived.Test.YtapglfcaghlpfaaSK
import Derived.Test.YtapglfcaghlpfaaEc
import Derived.Test.YtapglfcaghlpfaaRows
import Derived.OpenShut
import Derived.ShutString
import Derived.ChangeOld
import Derived.Test.YtapglfcaghlpfaaVW
set_option linter.unusedVariables false
set_option linter.unusedSimpArgs false
namespace Go.Proofs.Ytapglfcaghlpfaa
open Go Go.E Go.ChangeShapes Go.WideShapes Go.ChangeAt Go.RowKit Go.Maps
theorem own : ownKnob Try.prog.godebug = none := by kernel_rfl
theorem un4 : Try.prog.underlying 4 = some .bool := by kernel_rfl
theorem i64_of {n : Int} (h : (Lit.int .i64 n).wf = true) : i64 n := by
  simp [Lit.wf, IntKind.min, IntKind.max, IntKind.signed, IntKind.bits] at h; unfold i64; omega
theorem un24 : Try.prog.underlying 24 = some (.struct (Try.prog.fieldsOf 24)) := by kernel_rfl
abbrev shInt : List Sh := [.leaf (.int .i64)]
abbrev shCal : List Sh := [.leaf (.int .i64), .leaf (.int .i64), .leaf (.int .i64), .leaf .bool, .leaf .bool, .sl shInt]
abbrev shRul : List Sh := [.sl shInt, .leaf (.int .i64), .leaf (.int .i64)]
abbrev shSka : List Sh := [.sl shCal, .sl [.sl shInt], .leaf (.int .i64)]
theorem sh24 : sh Try.prog 9 24 = some shRul := by kernel_rfl
theorem ints_of : ∀ {rows : List (List D)}, (∀ x ∈ rows, shDs shInt x) → ∃ l : List Int, rows = l.map ic ∧ ∀ x ∈ l, i64 x
  | [], _ => ⟨[], rfl, by simp⟩
  | r :: rs, h => by
    obtain ⟨l, hl, hb⟩ := ints_of (rows := rs) fun y hy => h y (by simp [hy])
    have hr := h r (by simp)
    match r, hr with
    | [.v (.int _ a)], ⟨⟨h1, hw⟩, _⟩ =>
      subst h1
      refine ⟨a :: l, by rw [hl]; rfl, fun x hx => ?_⟩
      rcases List.mem_cons.1 hx with rfl | hx
      · exact i64_of hw
      · exact hb x hx
theorem cal_of {ds : List D} (h : shDs shCal ds) : ∃ x : Cal, ds = x.c ∧ i64 x.place := by
  match ds, h with
  | [.v (.int _ a), .v (.int _ b), .v (.int _ c), .v (.bool d), .v (.bool e), .sl sz rows], ⟨⟨h1, hw⟩, ⟨h2, _⟩, ⟨h3, _⟩, _, _, ⟨h0, h4⟩, _⟩ =>
    subst h1; subst h2; subst h3; subst h0
    obtain ⟨l, rfl, _⟩ := ints_of h4
    exact ⟨⟨a, b, c, d, e, l⟩, rfl, i64_of hw⟩
theorem cals_of : ∀ {rows : List (List D)}, (∀ x ∈ rows, shDs shCal x) → ∃ l : List Cal, rows = l.map Cal.c ∧ ∀ x ∈ l, i64 x.place
  | [], _ => ⟨[], rfl, by simp⟩
  | r :: rs, h => by
    obtain ⟨x, hx, hp⟩ := cal_of (h r (by simp))
    obtain ⟨l, hl, hb⟩ := cals_of (rows := rs) fun y hy => h y (by simp [hy])
    refine ⟨x :: l, by rw [hx, hl]; rfl, fun y hy => ?_⟩
    rcases List.mem_cons.1 hy with rfl | hy
    · exact hp
    · exact hb y hy
theorem pcs_of : ∀ {rows : List (List D)}, (∀ x ∈ rows, shDs [.sl shInt] x) → ∃ l : List (List Int), rows = l.map pc
  | [], _ => ⟨[], rfl⟩
  | r :: rs, h => by
    obtain ⟨l, hl⟩ := pcs_of (rows := rs) fun y hy => h y (by simp [hy])
    have hr := h r (by simp)
    match r, hr with
    | [.sl sz rows], ⟨⟨h0, h4⟩, _⟩ =>
      subst h0
      obtain ⟨k, rfl, _⟩ := ints_of h4
      exact ⟨k :: l, by rw [hl]; rfl⟩
theorem rul_of {ds : List D} (h : shDs shRul ds) : ∃ r : Rul, ds = [.sl 1 (r.bases.map ic), .i r.factor, .i r.most] := by
  match ds, h with
  | [.sl sz rows, .v (.int _ a), .v (.int _ b)], ⟨⟨h0, h4⟩, ⟨h1, _⟩, ⟨h2, _⟩, _⟩ =>
    subst h1; subst h2; subst h0
    obtain ⟨l, rfl, _⟩ := ints_of h4
    exact ⟨⟨l, a, b⟩, rfl⟩
theorem ska_of {ds : List D} (h : shDs shSka ds) : ∃ (s : Ska) (_ : ∀ x ∈ s.calls, i64 x.place), ds = s.c := by
  match ds, h with
  | [.sl sz rows, .sl sy rowt, .v (.int _ a)], ⟨⟨h0, h4⟩, ⟨h1, h5⟩, ⟨h2, _⟩, _⟩ =>
    subst h0; subst h1; subst h2
    obtain ⟨l, rfl, hb⟩ := cals_of h4
    obtain ⟨k, rfl⟩ := pcs_of h5
    exact ⟨⟨l, k, a⟩, hb, rfl⟩
end Go.Proofs.Ytapglfcaghlpfaa

namespace Go.Proofs.Ytapglfcaghlpfaa
open Go Go.E Go.ChangeShapes Go.WideShapes Go.ChangeAt Go.RowKit Go.Maps
theorem u8_of {n : Int} (h : (Lit.int .u8 n).wf = true) : 0 ≤ n ∧ n ≤ 255 := by simp [Lit.wf, IntKind.min, IntKind.max, IntKind.signed, IntKind.bits] at h; omega
end Go.Proofs.Ytapglfcaghlpfaa

namespace Go.Proofs.Ytapglfcaghlpfaa
open Go Go.E Go.ChangeShapes Go.WideShapes Go.ChangeAt Go.RowKit Go.Maps
theorem un31 : Try.prog.underlying 31 = some (.slice 28) := by kernel_rfl
theorem sh31 : sh Try.prog 9 31 = some [.sl shSka] := by kernel_rfl
theorem skas_of : ∀ {rows : List (List D)}, (∀ x ∈ rows, shDs shSka x) → ∃ (l : List Ska) (_ : ∀ s ∈ l, ∀ x ∈ s.calls, i64 x.place), rows = l.map Ska.c
  | [], _ => ⟨[], fun s hs => absurd hs (List.not_mem_nil), rfl⟩
  | r :: rs, h => by
    obtain ⟨s, hs, e⟩ := ska_of (h r (by simp))
    obtain ⟨l, hl, hr⟩ := skas_of (rows := rs) fun y hy => h y (by simp [hy])
    refine ⟨s :: l, fun z hz => ?_, by rw [e, hr]; rfl⟩
    rcases List.mem_cons.1 hz with rfl | hz
    · exact hs
    · exact hl z hz
end Go.Proofs.Ytapglfcaghlpfaa

namespace Go.Proofs.Ytapglfcaghlpfaa
open Go Go.E Go.ChangeShapes Go.WideShapes Go.ChangeAt Go.RowKit Go.Maps
theorem un29 : Try.prog.underlying 29 = some (.slice 5) := by kernel_rfl
theorem sh29 : sh Try.prog 9 29 = some [.sl [.leaf (.int .u8)]] := by kernel_rfl
theorem bytes_of : ∀ {rows : List (List D)}, (∀ x ∈ rows, shDs [.leaf (.int .u8)] x) → ∃ (l : List Int) (_ : ∀ b ∈ l, 0 ≤ b ∧ b ≤ 255), rows = l.map bc
  | [], _ => ⟨[], by simp, rfl⟩
  | r :: rs, h => by
    obtain ⟨l, hb, hl⟩ := bytes_of (rows := rs) fun y hy => h y (by simp [hy])
    have hr := h r (by simp)
    match r, hr with
    | [.v (.int _ a)], ⟨⟨h1, hw⟩, _⟩ =>
      subst h1
      refine ⟨a :: l, fun x hx => ?_, by rw [hl]; rfl⟩
      rcases List.mem_cons.1 hx with rfl | hx
      · exact u8_of hw
      · exact hb x hx
end Go.Proofs.Ytapglfcaghlpfaa
