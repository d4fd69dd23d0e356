/- GearFits: for every shop, all events and all wishes, the law returns true, and its arguments read behind it as they did. No conditions. -/
import Derived.Test.YtmkigohedfcomaaGP
import Derived.Test.YtmkigohedfcomaaEb
import Derived.Test.YtmkigohedfcomaaRows
import Derived.OpenShut
import Derived.ShutString
import Derived.ChangeOld
set_option linter.unusedVariables false
set_option linter.unusedSimpArgs false
namespace Go.Proofs.Ytmkigohedfcomaa
open Go Go.E Go.ChangeShapes Go.WideShapes Go.ChangeAt Go.RowKit

theorem own : ownKnob Try.prog.godebug = none := by kernel_rfl
theorem shop_of {ds : List D} (h : leafD [.int .i64, .int .i64, .int .i64, .int .i64, .int .i64, .int .i64] ds) : ∃ s : Shop, ds = s.c := by
  match ds, h with
  | [.v (.int _ a), .v (.int _ b), .v (.int _ c), .v (.int _ d), .v (.int _ e), .v (.int _ f)], ⟨⟨h1, _⟩, ⟨h2, _⟩, ⟨h3, _⟩, ⟨h4, _⟩, ⟨h5, _⟩, ⟨h6, _⟩, _⟩ =>
    subst h1; subst h2; subst h3; subst h4; subst h5; subst h6
    exact ⟨⟨a, b, c, d, e, f⟩, rfl⟩
theorem ev_of {ds : List D} (h : leafD [.int .i64, .int .i64, .int .i64, .int .i64] ds) : ∃ x : Ev, ds = x.c := by
  match ds, h with
  | [.v (.int _ a), .v (.int _ b), .v (.int _ c), .v (.int _ d)], ⟨⟨h1, _⟩, ⟨h2, _⟩, ⟨h3, _⟩, ⟨h4, _⟩, _⟩ =>
    subst h1; subst h2; subst h3; subst h4
    exact ⟨⟨a, b, c, d⟩, rfl⟩
theorem evs_of : ∀ {rows : List (List D)}, (∀ x ∈ rows, leafD [.int .i64, .int .i64, .int .i64, .int .i64] x) → ∃ l : List Ev, rows = l.map Ev.c
  | [], _ => ⟨[], rfl⟩
  | r :: rs, h => by
    obtain ⟨x, hx⟩ := ev_of (h r (by simp))
    obtain ⟨l, hl⟩ := evs_of (rows := rs) fun y hy => h y (by simp [hy])
    exact ⟨x :: l, by rw [hx, hl]; rfl⟩
theorem fl25 : fl Try.prog 9 25 = some [.int .i64, .int .i64, .int .i64, .int .i64, .int .i64, .int .i64] := by kernel_rfl
theorem fl46 : fl Try.prog 9 46 = some [.int .i64, .int .i64, .int .i64, .int .i64] := by kernel_rfl
theorem un25 : Try.prog.underlying 25 = some (.struct (Try.prog.fieldsOf 25)) := by kernel_rfl
theorem un26 : Try.prog.underlying 26 = some (.slice 46) := by kernel_rfl
theorem un3 : Try.prog.underlying 3 = some (.int .i64) := by kernel_rfl
theorem un4 : Try.prog.underlying 4 = some .bool := by kernel_rfl

theorem int_of {ds : List D} (h : leafD [.int .i64] ds) : ∃ x : Int, ds = ic x := by
  match ds, h with
  | [.v (.int _ a)], ⟨⟨h1, _⟩, _⟩ => subst h1; exact ⟨a, rfl⟩
theorem ints_of : ∀ {rows : List (List D)}, (∀ x ∈ rows, leafD [.int .i64] x) → ∃ l : List Int, rows = l.map ic
  | [], _ => ⟨[], rfl⟩
  | r :: rs, h => by
    obtain ⟨x, hx⟩ := int_of (h r (by simp))
    obtain ⟨l, hl⟩ := ints_of (rows := rs) fun y hy => h y (by simp [hy])
    exact ⟨x :: l, by rw [hx, hl]; rfl⟩
theorem fl3 : fl Try.prog 9 3 = some [.int .i64] := by kernel_rfl
theorem un37 : Try.prog.underlying 37 = some (.slice 3) := by kernel_rfl

set_option maxRecDepth 100000 in
theorem liftedFits (os : Os) (started : os.Started) (H : Type) (enc : TypeId × Value → H) :
    ReturnsInHanded {} Try.checked os 4 .any (Rows.gearFitsSpec.pre6 enc Try.prog Try.f4 Rows.gearFitsRow.domain false) (Rows.gearFitsSpec.post enc Try.prog Try.f4 false true false false) := by
  refine returnsInHanded_of_change (C := Try.checked) own started (by kernel_rfl) Try.func4
    (ChangeSpec.witness6 (enc := enc) (C := Try.checked) false ⟨#[], #[.agg #[.int .i64 0, .int .i64 0, .int .i64 0, .int .i64 0, .int .i64 0, .int .i64 0], .slice none 0 0, .slice none 0 0], []⟩ 8 (by kernel_rfl) (by kernel_rfl) (by kernel_rfl) (by kernel_rfl)) ?_
  intro W base args ds gs before hval0 hW hcnd _
  have hval : ∀ (j : Nat) t v, Try.f4.params[j]? = some t → args[j]? = some v → Value.okWide Try.prog W .any base t v := hval0
  have hW' := hW
  obtain ⟨p, q, hA0, hV, rfl, hfz, hnd⟩ := hW
  have hA : DataW.TrodAll enc Try.prog W 0 (fun _ => true) true Try.f4.params.toList args.toList ds p := hA0
  rw [Try.params4] at hA hval
  obtain ⟨v0, vs0, d0, ds0, p0, q0, hargs, rfl, rfl, h0, r0⟩ := trodAll_cons hA
  obtain ⟨v1, vs1, d1, ds1, p1, q1, rfl, rfl, rfl, h1, r1⟩ := trodAll_cons r0
  obtain ⟨v2, vs2, d2, ds2, p2, q2, rfl, rfl, rfl, h2, r2⟩ := trodAll_cons r1
  obtain ⟨rfl, rfl, rfl⟩ := trodAll_nil r2
  obtain rfl : args = #[v0, v1, v2] := by cases args; simp_all
  obtain ⟨rfl, rfl⟩ := trodVars_none hV
  have k0 := h0
  have k1 := h1
  have lt0 : ∀ x ∈ p0, x.block < W.heap.size := by obtain ⟨m, hm⟩ := k0; exact DataW.trod_lt m _ _ _ hm
  have lt1 : ∀ x ∈ p1, x.block < W.heap.size := by obtain ⟨m, hm⟩ := k1; exact DataW.trod_lt m _ _ _ hm
  obtain ⟨c0, w0, e0⟩ := arg_struct (m := Go.E.look (fun _ => True) W) un25 fl25 (hval 0 25 v0 rfl rfl) h0
  obtain ⟨s, rfl⟩ := shop_of w0
  obtain ⟨c1, w1, e1⟩ := arg_slice un26 fl46 (hval 1 26 v1 rfl rfl) h1
  obtain ⟨l, rfl⟩ := evs_of w1
  have k2 := h2
  have lt2 : ∀ x ∈ p2, x.block < W.heap.size := by obtain ⟨m, hm⟩ := k2; exact DataW.trod_lt m _ _ _ hm
  obtain ⟨c2, w2, e2⟩ := arg_slice un37 fl3 (hval 2 37 v2 rfl rfl) h2
  obtain ⟨ws, rfl⟩ := ints_of w2
  clear hA0 hval0
  refine ((pf4 s l ws).walk (w := W) (vs := #[v0, v1, v2]) ⟨v0, _, rfl, e0, v1, _, rfl, e1, v2, _, rfl, e2, rfl⟩).mono fun e W' ⟨he, bel⟩ => ?_
  subst he
  exact ⟨_, rfl, _, _, _, [], _, [], hW', trodAll_mk1 (shut_bool un4 _), (trodAll_cons_mk (Below.trod laid (by kernel_rfl) (of_decide_eq_true (by kernel_rfl)) k0 bel lt0) (trodAll_cons_mk (Below.trod laid (by kernel_rfl) (of_decide_eq_true (by kernel_rfl)) k1 bel lt1) (trodAll_cons_mk (Below.trod laid (by kernel_rfl) (of_decide_eq_true (by kernel_rfl)) k2 bel lt2) trodAll_mk0))), rfl, bel.frame _, fun h => by cases h⟩

/-- GearFits. -/
theorem gearFits : Rows.GearFitsSaid :=
  OpenClaim.holds_of_wide 4 Try.f4 rfl rfl rfl rfl rfl rfl rfl ⟨rfl, rfl, rfl, rfl, rfl⟩ rfl rfl rfl rfl rfl (by kernel_rfl) Try.func4 (by kernel_rfl)
    (of_decide_eq_true (by kernel_rfl)) (by unfold Func.isWrapper; first | (rw [if_pos (by decide +kernel)]; kernel_rfl) | (rw [if_neg (by decide +kernel)]; exact ⟨rfl, rfl⟩))
    (fun os started H enc _ => liftedFits os started H enc)
#print axioms gearFits
end Go.Proofs.Ytmkigohedfcomaa
