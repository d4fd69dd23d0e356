/- A part of the proof that the last text ends: what functions of the program do, told by plain data. -/
import Derived.Test.YtmkigohedfcomaaGJ
import Derived.Test.YtmkigohedfcomaaEb
import Derived.Test.YtmkigohedfcomaaRows
import Derived.OpenShut
import Derived.ShutString
import Derived.ChangeOld
set_option linter.unusedVariables false
set_option linter.unusedSimpArgs false
namespace Go.Proofs.Ytmkigohedfcomaa
open Go Go.E Go.ChangeShapes Go.WideShapes Go.ChangeAt Go.RowKit
theorem own : ownKnob Try.prog.godebug = none := by kernel_rfl
theorem shop_of {ds : List D} (h : leafD [.int .i64, .int .i64, .int .i64, .int .i64, .int .i64, .int .i64] ds) : ∃ s : Shop, ds = s.c := by
  match ds, h with
  | [.v (.int _ a), .v (.int _ b), .v (.int _ c), .v (.int _ d), .v (.int _ e), .v (.int _ f)], ⟨⟨h1, _⟩, ⟨h2, _⟩, ⟨h3, _⟩, ⟨h4, _⟩, ⟨h5, _⟩, ⟨h6, _⟩, _⟩ =>
    subst h1; subst h2; subst h3; subst h4; subst h5; subst h6
    exact ⟨⟨a, b, c, d, e, f⟩, rfl⟩
theorem ev_of {ds : List D} (h : leafD [.int .i64, .int .i64, .int .i64, .int .i64] ds) : ∃ x : Ev, ds = x.c := by
  match ds, h with
  | [.v (.int _ a), .v (.int _ b), .v (.int _ c), .v (.int _ d)], ⟨⟨h1, _⟩, ⟨h2, _⟩, ⟨h3, _⟩, ⟨h4, _⟩, _⟩ =>
    subst h1; subst h2; subst h3; subst h4
    exact ⟨⟨a, b, c, d⟩, rfl⟩
theorem evs_of : ∀ {rows : List (List D)}, (∀ x ∈ rows, leafD [.int .i64, .int .i64, .int .i64, .int .i64] x) → ∃ l : List Ev, rows = l.map Ev.c
  | [], _ => ⟨[], rfl⟩
  | r :: rs, h => by
    obtain ⟨x, hx⟩ := ev_of (h r (by simp))
    obtain ⟨l, hl⟩ := evs_of (rows := rs) fun y hy => h y (by simp [hy])
    exact ⟨x :: l, by rw [hx, hl]; rfl⟩
theorem fl25 : fl Try.prog 9 25 = some [.int .i64, .int .i64, .int .i64, .int .i64, .int .i64, .int .i64] := by kernel_rfl
theorem fl46 : fl Try.prog 9 46 = some [.int .i64, .int .i64, .int .i64, .int .i64] := by kernel_rfl
theorem un25 : Try.prog.underlying 25 = some (.struct (Try.prog.fieldsOf 25)) := by kernel_rfl
theorem un26 : Try.prog.underlying 26 = some (.slice 46) := by kernel_rfl
theorem un3 : Try.prog.underlying 3 = some (.int .i64) := by kernel_rfl
theorem un4 : Try.prog.underlying 4 = some .bool := by kernel_rfl

theorem int_of {ds : List D} (h : leafD [.int .i64] ds) : ∃ x : Int, ds = ic x := by
  match ds, h with
  | [.v (.int _ a)], ⟨⟨h1, _⟩, _⟩ => subst h1; exact ⟨a, rfl⟩
theorem ints_of : ∀ {rows : List (List D)}, (∀ x ∈ rows, leafD [.int .i64] x) → ∃ l : List Int, rows = l.map ic
  | [], _ => ⟨[], rfl⟩
  | r :: rs, h => by
    obtain ⟨x, hx⟩ := int_of (h r (by simp))
    obtain ⟨l, hl⟩ := ints_of (rows := rs) fun y hy => h y (by simp [hy])
    exact ⟨x :: l, by rw [hx, hl]; rfl⟩
theorem fl3 : fl Try.prog 9 3 = some [.int .i64] := by kernel_rfl
theorem un37 : Try.prog.underlying 37 = some (.slice 3) := by kernel_rfl

theorem un5 : Try.prog.underlying 5 = some (.int .u8) := by kernel_rfl
theorem un42 : Try.prog.underlying 42 = some (.slice 49) := by kernel_rfl
theorem fl49 : fl Try.prog 9 49 = some [.int .u32] := by kernel_rfl
/-- A reading of uint32 and such. -/
def uc (k : IntKind) (n : Int) : List D := [.v (.int k n)]
theorem nat_of {k : IntKind} {ds : List D} (h : leafD [.int k] ds) : ∃ x : Int, ds = uc k x ∧ (Lit.int k x).wf = true := by
  match ds, h with
  | [.v (.int _ a)], ⟨⟨h1, h2⟩, _⟩ => subst h1; exact ⟨a, rfl, h2⟩
theorem nats_of {k : IntKind} : ∀ {rows : List (List D)}, (∀ x ∈ rows, leafD [.int k] x) → ∃ l : List Int, rows = l.map (uc k) ∧ ∀ x ∈ l, (Lit.int k x).wf = true
  | [], _ => ⟨[], rfl, by simp⟩
  | r :: rs, h => by
    obtain ⟨x, hx, hw⟩ := nat_of (h r (by simp))
    obtain ⟨l, hl, hlw⟩ := nats_of (rows := rs) fun y hy => h y (by simp [hy])
    exact ⟨x :: l, by rw [hx, hl]; rfl, by simpa using ⟨hw, hlw⟩⟩
theorem wf_u8 {n : Int} (h : (Lit.int .u8 n).wf = true) : 0 ≤ n ∧ n ≤ 255 := by
  have h : (decide ((0 : Int) ≤ n) && decide (n ≤ 255)) = true := h
  simp at h; omega
theorem wf_u32 {n : Int} (h : (Lit.int .u32 n).wf = true) : 0 ≤ n ∧ n ≤ 4294967295 := by
  have h : (decide ((0 : Int) ≤ n) && decide (n ≤ 4294967295)) = true := h
  simp at h; omega
end Go.Proofs.Ytmkigohedfcomaa
