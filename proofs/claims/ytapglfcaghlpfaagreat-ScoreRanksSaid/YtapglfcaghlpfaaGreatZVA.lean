/- A part of the proof that the last text ends: what functions of the program do, told by plain data. -/
import Derived.Test.YtapglfcaghlpfaaGreatZXB
import Derived.Test.YtapglfcaghlpfaaGreatEc
import Derived.Test.YtapglfcaghlpfaaGreatRows
import Derived.OpenShut
import Derived.ShutString
import Derived.ChangeOld
set_option linter.unusedVariables false
set_option linter.unusedSimpArgs false
namespace Go.Proofs.YtapglfcaghlpfaaGreat
open Go Go.E Go.ChangeShapes Go.WideShapes Go.ChangeAt Go.RowKit Go.Maps
theorem own : ownKnob Tryz.prog.godebug = none := by kernel_rfl
theorem un4 : Tryz.prog.underlying 4 = some .bool := by kernel_rfl
theorem i64_of {n : Int} (h : (Lit.int .i64 n).wf = true) : i64 n := by
  simp [Lit.wf, IntKind.min, IntKind.max, IntKind.signed, IntKind.bits] at h; unfold i64; omega
theorem un25 : Tryz.prog.underlying 25 = some (.struct (Tryz.prog.fieldsOf 25)) := by kernel_rfl
abbrev shInt : List Sh := [.leaf (.int .i64)]
abbrev shCal : List Sh := [.leaf (.int .i64), .leaf (.int .i64), .leaf (.int .i64), .leaf .bool, .leaf .bool, .sl shInt]
abbrev shRul : List Sh := [.sl shInt, .leaf (.int .i64), .leaf (.int .i64)]
abbrev shSka : List Sh := [.sl shCal, .sl [.sl shInt], .leaf (.int .i64)]
theorem sh25 : sh Tryz.prog 9 25 = some shRul := by kernel_rfl
theorem ints_of : ∀ {rows : List (List D)}, (∀ x ∈ rows, shDs shInt x) → ∃ l : List Int, rows = l.map ic ∧ ∀ x ∈ l, i64 x
  | [], _ => ⟨[], rfl, by simp⟩
  | r :: rs, h => by
    obtain ⟨l, hl, hb⟩ := ints_of (rows := rs) fun y hy => h y (by simp [hy])
    have hr := h r (by simp)
    match r, hr with
    | [.v (.int _ a)], ⟨⟨h1, hw⟩, _⟩ =>
      subst h1
      refine ⟨a :: l, by rw [hl]; rfl, fun x hx => ?_⟩
      rcases List.mem_cons.1 hx with rfl | hx
      · exact i64_of hw
      · exact hb x hx
theorem cal_of {ds : List D} (h : shDs shCal ds) : ∃ x : Cal, ds = x.c ∧ i64 x.place := by
  match ds, h with
  | [.v (.int _ a), .v (.int _ b), .v (.int _ c), .v (.bool d), .v (.bool e), .sl sz rows], ⟨⟨h1, hw⟩, ⟨h2, _⟩, ⟨h3, _⟩, _, _, ⟨h0, h4⟩, _⟩ =>
    subst h1; subst h2; subst h3; subst h0
    obtain ⟨l, rfl, _⟩ := ints_of h4
    exact ⟨⟨a, b, c, d, e, l⟩, rfl, i64_of hw⟩
theorem cals_of : ∀ {rows : List (List D)}, (∀ x ∈ rows, shDs shCal x) → ∃ l : List Cal, rows = l.map Cal.c ∧ ∀ x ∈ l, i64 x.place
  | [], _ => ⟨[], rfl, by simp⟩
  | r :: rs, h => by
    obtain ⟨x, hx, hp⟩ := cal_of (h r (by simp))
    obtain ⟨l, hl, hb⟩ := cals_of (rows := rs) fun y hy => h y (by simp [hy])
    refine ⟨x :: l, by rw [hx, hl]; rfl, fun y hy => ?_⟩
    rcases List.mem_cons.1 hy with rfl | hy
    · exact hp
    · exact hb y hy
theorem pcs_of : ∀ {rows : List (List D)}, (∀ x ∈ rows, shDs [.sl shInt] x) → ∃ l : List (List Int), rows = l.map pc
  | [], _ => ⟨[], rfl⟩
  | r :: rs, h => by
    obtain ⟨l, hl⟩ := pcs_of (rows := rs) fun y hy => h y (by simp [hy])
    have hr := h r (by simp)
    match r, hr with
    | [.sl sz rows], ⟨⟨h0, h4⟩, _⟩ =>
      subst h0
      obtain ⟨k, rfl, _⟩ := ints_of h4
      exact ⟨k :: l, by rw [hl]; rfl⟩
theorem rul_of {ds : List D} (h : shDs shRul ds) : ∃ r : Rul, ds = [.sl 1 (r.bases.map ic), .i r.factor, .i r.most] := by
  match ds, h with
  | [.sl sz rows, .v (.int _ a), .v (.int _ b)], ⟨⟨h0, h4⟩, ⟨h1, _⟩, ⟨h2, _⟩, _⟩ =>
    subst h1; subst h2; subst h0
    obtain ⟨l, rfl, _⟩ := ints_of h4
    exact ⟨⟨l, a, b⟩, rfl⟩
theorem ska_of {ds : List D} (h : shDs shSka ds) : ∃ (s : Ska) (_ : ∀ x ∈ s.calls, i64 x.place), ds = s.c := by
  match ds, h with
  | [.sl sz rows, .sl sy rowt, .v (.int _ a)], ⟨⟨h0, h4⟩, ⟨h1, h5⟩, ⟨h2, _⟩, _⟩ =>
    subst h0; subst h1; subst h2
    obtain ⟨l, rfl, hb⟩ := cals_of h4
    obtain ⟨k, rfl⟩ := pcs_of h5
    exact ⟨⟨l, k, a⟩, hb, rfl⟩
theorem un26 : Tryz.prog.underlying 26 = some (.slice 42) := by kernel_rfl
theorem sh26 : sh Tryz.prog 9 26 = some [.sl shSka] := by kernel_rfl
theorem skas_of : ∀ {rows : List (List D)}, (∀ x ∈ rows, shDs shSka x) → ∃ (l : List Ska) (_ : ∀ s ∈ l, ∀ x ∈ s.calls, i64 x.place), rows = l.map Ska.c
  | [], _ => ⟨[], fun s hs => absurd hs (List.not_mem_nil), rfl⟩
  | r :: rs, h => by
    obtain ⟨s, hs, e⟩ := ska_of (h r (by simp))
    obtain ⟨l, hl, hr⟩ := skas_of (rows := rs) fun y hy => h y (by simp [hy])
    refine ⟨s :: l, fun z hz => ?_, by rw [e, hr]; rfl⟩
    rcases List.mem_cons.1 hz with rfl | hz
    · exact hs
    · exact hl z hz
theorem un22 : Tryz.prog.underlying 22 = some (.slice 48) := by kernel_rfl
abbrev shSco : List Sh := [.leaf (.int .i64), .leaf (.int .i64), .leaf (.int .i64), .leaf (.int .i64)]
theorem sh22 : sh Tryz.prog 9 22 = some [.sl shSco] := by kernel_rfl
theorem sco_of {ds : List D} (h : shDs shSco ds) : ∃ x : Sco, ds = x.c := by
  match ds, h with
  | [.v (.int _ a), .v (.int _ b), .v (.int _ c), .v (.int _ d)], ⟨⟨h1, _⟩, ⟨h2, _⟩, ⟨h3, _⟩, ⟨h4, _⟩, _⟩ =>
    subst h1; subst h2; subst h3; subst h4
    exact ⟨⟨a, b, c, d⟩, rfl⟩
theorem scos_of : ∀ {rows : List (List D)}, (∀ x ∈ rows, shDs shSco x) → ∃ l : List Sco, rows = l.map Sco.c
  | [], _ => ⟨[], rfl⟩
  | r :: rs, h => by
    obtain ⟨x, hx⟩ := sco_of (h r (by simp))
    obtain ⟨l, hl⟩ := scos_of (rows := rs) fun y hy => h y (by simp [hy])
    exact ⟨x :: l, by rw [hx, hl]; rfl⟩
end Go.Proofs.YtapglfcaghlpfaaGreat
