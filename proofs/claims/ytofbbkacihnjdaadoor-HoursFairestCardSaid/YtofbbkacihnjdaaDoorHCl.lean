/- A part of the proof that the last text ends: what functions of the program do, told by plain data. -/
import Derived.Test.YtofbbkacihnjdaaDoorHZ
import Derived.Test.YtofbbkacihnjdaaDoorEc
import Derived.Test.YtofbbkacihnjdaaDoorRows
import Derived.Test.YtofbbkacihnjdaaDoorTie
import Derived.Test.YtofbbkacihnjdaaDoorCards
import Derived.OpenShut
import Derived.ChangeOld
import Derived.LaidMore
import Derived.ProofKit
import Derived.Stop.Joined
set_option linter.unusedVariables false
set_option linter.unusedSimpArgs false
namespace Go.Proofs.YtofbbkacihnjdaaDoor
open Go Go.E Go.ChangeShapes Go.WideShapes Go.ChangeAt Go.RowKit Go.Maps
set_option maxRecDepth 100000
theorem own : ownKnob Tryd.prog.godebug = none := by kernel_rfl
theorem un4 : Tryd.prog.underlying 4 = some .bool := by kernel_rfl
theorem un5 : Tryd.prog.underlying 5 = some (.int .u8) := by kernel_rfl
theorem un25 : Tryd.prog.underlying 25 = some (.struct (Tryd.prog.fieldsOf 25)) := by kernel_rfl
theorem un26 : Tryd.prog.underlying 26 = some (.slice 3) := by kernel_rfl
theorem un111 : Tryd.prog.underlying 111 = some (.array 64 5) := by kernel_rfl
theorem gTab : Tryd.prog.globalNamed "math/bits.deBruijn64tab" = some 1 := by kernel_rfl
theorem tTab : (Tryd.prog.globals[1]?).map (·.type) = some 111 := by kernel_rfl
abbrev shInt : List Sh := [.leaf (.int .i64)]
abbrev shHr : List Sh := [.leaf (.int .i64), .leaf (.int .i64), .leaf (.int .i64)]
abbrev shGr : List Sh := [.leaf (.int .i64), .leaf (.int .i64), .leaf (.int .i64), .leaf (.int .i64), .leaf (.int .i64)]
abbrev shTt : List Sh := [.sl shHr, .sl shGr, .leaf (.int .i64)]
theorem sh25 : sh Tryd.prog 9 25 = some shTt := by kernel_rfl
theorem sh26 : sh Tryd.prog 9 26 = some [.sl shInt] := by kernel_rfl
theorem ints_of : ∀ {rows : List (List D)}, (∀ x ∈ rows, shDs shInt x) → ∃ l : List Int, rows = l.map ic
  | [], _ => ⟨[], rfl⟩
  | r :: rs, h => by
    obtain ⟨l, hl⟩ := ints_of (rows := rs) fun y hy => h y (by simp [hy])
    have hr := h r (by simp)
    match r, hr with
    | [.v (.int _ a)], ⟨⟨h1, hw⟩, _⟩ =>
      subst h1
      exact ⟨a :: l, by rw [hl]; rfl⟩
theorem hr_of {ds : List D} (h : shDs shHr ds) : ∃ x : Hr, ds = x.c := by
  match ds, h with
  | [.v (.int _ a), .v (.int _ b), .v (.int _ c)], ⟨⟨h1, _⟩, ⟨h2, _⟩, ⟨h3, _⟩, _⟩ =>
    subst h1; subst h2; subst h3
    exact ⟨⟨a, b, c⟩, rfl⟩
theorem gr_of {ds : List D} (h : shDs shGr ds) : ∃ x : Gr, ds = x.c := by
  match ds, h with
  | [.v (.int _ a), .v (.int _ b), .v (.int _ c), .v (.int _ d), .v (.int _ e)], ⟨⟨h1, _⟩, ⟨h2, _⟩, ⟨h3, _⟩, ⟨h4, _⟩, ⟨h5, _⟩, _⟩ =>
    subst h1; subst h2; subst h3; subst h4; subst h5
    exact ⟨⟨a, b, c, d, e⟩, rfl⟩
theorem hrs_of : ∀ {rows : List (List D)}, (∀ x ∈ rows, shDs shHr x) → ∃ l : List Hr, rows = l.map Hr.c
  | [], _ => ⟨[], rfl⟩
  | r :: rs, h => by
    obtain ⟨x, hx⟩ := hr_of (h r (by simp))
    obtain ⟨l, hl⟩ := hrs_of (rows := rs) fun y hy => h y (by simp [hy])
    exact ⟨x :: l, by rw [hx, hl]; rfl⟩
theorem grs_of : ∀ {rows : List (List D)}, (∀ x ∈ rows, shDs shGr x) → ∃ l : List Gr, rows = l.map Gr.c
  | [], _ => ⟨[], rfl⟩
  | r :: rs, h => by
    obtain ⟨x, hx⟩ := gr_of (h r (by simp))
    obtain ⟨l, hl⟩ := grs_of (rows := rs) fun y hy => h y (by simp [hy])
    exact ⟨x :: l, by rw [hx, hl]; rfl⟩
theorem tt_of {ds : List D} (h : shDs shTt ds) : ∃ x : Tt, ds = x.c := by
  match ds, h with
  | [.sl sz rows, .sl sy rowt, .v (.int _ r)], ⟨⟨h0, h4⟩, ⟨h1, h5⟩, ⟨h2, _⟩, _⟩ =>
    subst h0; subst h1; subst h2
    obtain ⟨l, rfl⟩ := hrs_of h4
    obtain ⟨k, rfl⟩ := grs_of h5
    exact ⟨⟨l, k, r⟩, rfl⟩
abbrev laidL : List (String × DataW Unit) := [("math/bits.deBruijn32tab", Rows.laid_math_bits_deBruijn32tab), ("math/bits.deBruijn64tab", Rows.laid_math_bits_deBruijn64tab)]
theorem door_met (os : Os) (args : Array Value) : laidMetH Tryd.prog laidL ((World.doorLaid Tryd.prog 400 os).forCall (fun _ _ => 0) ⟨#[], args, []⟩).memory :=
  laidMetH_of_parts3 (fuel := 8) (laidMet_of_run' 8 (by kernel_rfl) (by kernel_rfl)) (by kernel_rfl) (by kernel_rfl)
theorem bytes_of {H : Type} {enc : TypeId × Value → H} {W : World} {base : Nat} {spare : Nat → Bool} {held : Bool} {m t n : Nat} {cs : List Value} (ht : Tryd.prog.underlying t = some (.array n 5)) (hc : Tryd.prog.cellsOf t = n) {ks : List Int} {p : List MemPlace} (h : DataW.trod enc Tryd.prog W base spare held m t cs = some (.agg (ks.map fun k => .lit (.int .u8 k)), p)) : cs = ks.map fun k => Value.int .u8 k := by
  obtain ⟨xs, m1, _, hx, hlen, hn, hel⟩ := DataW.trod_array ht h
  have c5 : Tryd.prog.cellsOf 5 = 1 := by kernel_rfl
  rw [hc] at hlen
  rw [c5] at hel
  simp only [Prod.mk.injEq, DataW.agg.injEq] at hx
  have hkl : ks.length = n := by have := congrArg List.length hx.1; simp at this; omega
  apply List.ext_getElem (by simp; omega)
  intro i h1 h2
  have hi := hel i (by omega)
  have hxi : i < xs.length := by omega
  rw [List.getElem?_eq_getElem hxi] at hi
  obtain ⟨k, e1, e2, _⟩ := DataW.trod_int un5 hi
  have e3 : (xs[i]).1 = DataW.lit (.int .u8 (ks[i]'(by simpa using h2))) := by
    have := congrArg (fun l => l[i]?) hx.1
    simp only [List.getElem?_map] at this
    rw [List.getElem?_eq_getElem hxi, List.getElem?_eq_getElem (by simpa using h2)] at this
    simpa using this.symm
  rw [e2] at e3
  simp only [DataW.lit.injEq, Lit.int.injEq, true_and] at e3
  have e4 : cs[i]? = some (Value.int .u8 k) := by
    have := congrArg (fun l => l[0]?) e1
    simpa using this
  rw [List.getElem?_eq_getElem h1] at e4
  rw [Option.some.inj e4, e3]
  simp
def gks : List Int := [0, 1, 56, 2, 57, 49, 28, 3, 61, 58, 42, 50, 38, 29, 17, 4, 62, 47, 59, 36, 45, 43, 51, 22, 53, 39, 33, 30, 24, 18, 12, 5, 63, 55, 48, 27, 60, 41, 37, 16, 46, 35, 44, 21, 52, 32, 23, 11, 54, 26, 40, 15, 34, 20, 31, 10, 25, 14, 19, 9, 13, 8, 7, 6]
theorem of_laid {W : World} (h : laidMetH Tryd.prog laidL W) : gRep (fun _ => True) W 1 gtb := by
  rw [MakeChecks.laidMetH_plain _ _ _ (by kernel_rfl)] at h
  obtain ⟨ps, ⟨g0, t0, cs0, f0, p0, q0, hg0, ht0, hv0, hd0, hr0, hr1⟩, _⟩ := h
  obtain ⟨g1, t1, cs1, f1, p1, q1, hg1, ht1, hv1, hd1, _⟩ := hr0
  obtain rfl := Option.some.inj (gTab.symm.trans hg1)
  obtain rfl := Option.some.inj (tTab.symm.trans ht1)
  have hb := bytes_of (ks := gks) un111 (by kernel_rfl) (show DataW.trod _ Tryd.prog W _ _ _ f1 111 cs1.toList = some (.agg (gks.map fun k => .lit (.int .u8 k)), p1) from hd1)
  have hc := fun i => World.var?_cell hg1 hv1 i
  have hgt : gtb = gks.map fun k => D.v (.int .u8 k) := rfl
  refine ⟨1, 0, rfl, DCells.of_get fun i d hd => ?_⟩
  rw [hgt, List.getElem?_map] at hd
  obtain ⟨k, hk, rfl⟩ := Option.map_eq_some_iff.1 hd
  refine ⟨.int .u8 k, look_some.2 ⟨trivial, ?_⟩, rfl, rfl⟩
  have h2 : cs1[i]? = some (Value.int .u8 k) := by
    rw [← Array.getElem?_toList, hb, List.getElem?_map, hk]; rfl
  rw [Nat.zero_add, hc, h2]
end Go.Proofs.YtofbbkacihnjdaaDoor
