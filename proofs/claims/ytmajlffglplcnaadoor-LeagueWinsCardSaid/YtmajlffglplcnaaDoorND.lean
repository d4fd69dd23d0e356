/- A part of the proof that the last text ends: what functions of the program do, told by plain data. -/
import Derived.Test.YtmajlffglplcnaaDoorNC
import Derived.Test.YtmajlffglplcnaaDoorEc
import Derived.Test.YtmajlffglplcnaaDoorRows
import Derived.Test.YtmajlffglplcnaaDoorTie
import Derived.Test.YtmajlffglplcnaaDoorCards
import Derived.OpenShut
import Derived.ChangeOld
import Derived.LaidMore
import Derived.ProofKit
import Derived.Stop.Joined
set_option linter.unusedVariables false
set_option linter.unusedSimpArgs false
namespace Go.Proofs.YtmajlffglplcnaaDoor
open Go Go.E Go.ChangeShapes Go.WideShapes Go.ChangeAt Go.RowKit Go.Maps
set_option maxRecDepth 100000
theorem own : ownKnob Tryd.prog.godebug = none := by kernel_rfl
theorem un3 : Tryd.prog.underlying 3 = some (.int .i64) := by kernel_rfl
theorem un4 : Tryd.prog.underlying 4 = some .bool := by kernel_rfl
theorem un25 : Tryd.prog.underlying 25 = some (.struct (Tryd.prog.fieldsOf 25)) := by kernel_rfl
theorem un84 : Tryd.prog.underlying 84 = some (.array 2 3) := by kernel_rfl
theorem un85 : Tryd.prog.underlying 85 = some (.array 4 84) := by kernel_rfl
theorem gPts : Tryd.prog.globalNamed "icehall/league.points" = some 0 := by kernel_rfl
theorem tPts : (Tryd.prog.globals[0]?).map (·.type) = some 85 := by kernel_rfl
abbrev shInt : List Sh := [.leaf (.int .i64)]
abbrev shGam : List Sh := [.leaf (.int .i64), .leaf (.int .i64), .leaf (.int .i64), .leaf (.int .i64), .leaf (.int .i64), .leaf (.int .i64)]
abbrev shLea : List Sh := [.sl [.sl shInt], .sl shGam]
theorem sh25 : sh Tryd.prog 9 25 = some shLea := by kernel_rfl
theorem ints_of : ∀ {rows : List (List D)}, (∀ x ∈ rows, shDs shInt x) → ∃ l : List Int, rows = l.map ic
  | [], _ => ⟨[], rfl⟩
  | r :: rs, h => by
    obtain ⟨l, hl⟩ := ints_of (rows := rs) fun y hy => h y (by simp [hy])
    have hr := h r (by simp)
    match r, hr with
    | [.v (.int _ a)], ⟨⟨h1, hw⟩, _⟩ =>
      subst h1
      exact ⟨a :: l, by rw [hl]; rfl⟩
theorem gam_of {ds : List D} (h : shDs shGam ds) : ∃ x : Gam, ds = x.c := by
  match ds, h with
  | [.v (.int _ a), .v (.int _ b), .v (.int _ c), .v (.int _ d), .v (.int _ e), .v (.int _ f)], ⟨⟨h1, _⟩, ⟨h2, _⟩, ⟨h3, _⟩, ⟨h4, _⟩, ⟨h5, _⟩, ⟨h6, _⟩, _⟩ =>
    subst h1; subst h2; subst h3; subst h4; subst h5; subst h6
    exact ⟨⟨a, b, c, d, e, f⟩, rfl⟩
theorem gams_of : ∀ {rows : List (List D)}, (∀ x ∈ rows, shDs shGam x) → ∃ l : List Gam, rows = l.map Gam.c
  | [], _ => ⟨[], rfl⟩
  | r :: rs, h => by
    obtain ⟨x, hx⟩ := gam_of (h r (by simp))
    obtain ⟨l, hl⟩ := gams_of (rows := rs) fun y hy => h y (by simp [hy])
    exact ⟨x :: l, by rw [hx, hl]; rfl⟩
theorem pcs_of : ∀ {rows : List (List D)}, (∀ x ∈ rows, shDs [.sl shInt] x) → ∃ l : List (List Int), rows = l.map pc
  | [], _ => ⟨[], rfl⟩
  | r :: rs, h => by
    obtain ⟨l, hl⟩ := pcs_of (rows := rs) fun y hy => h y (by simp [hy])
    have hr := h r (by simp)
    match r, hr with
    | [.sl sz rows], ⟨⟨h0, h4⟩, _⟩ =>
      subst h0
      obtain ⟨k, rfl⟩ := ints_of h4
      exact ⟨k :: l, by rw [hl]; rfl⟩
theorem lea_of {ds : List D} (h : shDs shLea ds) : ∃ x : Lea, ds = x.c := by
  match ds, h with
  | [.sl sz rows, .sl sy rowt], ⟨⟨h0, h4⟩, ⟨h1, h5⟩, _⟩ =>
    subst h0; subst h1
    obtain ⟨l, rfl⟩ := pcs_of h4
    obtain ⟨k, rfl⟩ := gams_of h5
    exact ⟨⟨l, k⟩, rfl⟩
abbrev laidL : List (String × DataW Unit) := [("icehall/league.points", Rows.laid_icehall_league_points)]
theorem door_met (os : Os) (args : Array Value) : laidMetH Tryd.prog laidL ((World.doorLaid Tryd.prog 400 os).forCall (fun _ _ => 0) ⟨#[], args, []⟩).memory :=
  laidMetH_of_parts3 (fuel := 8) (laidMet_of_run' 8 (by kernel_rfl) (by kernel_rfl)) (by kernel_rfl) (by kernel_rfl)
theorem trod_i64 {H : Type} {enc : TypeId × Value → H} {W : World} {base : Nat} {spare : Nat → Bool} {held : Bool} {m : Nat} {cs : List Value} {z : Int} {p : List MemPlace} (h : DataW.trod enc Tryd.prog W base spare held m 3 cs = some (.lit (.int .i64 z), p)) : cs = [.int .i64 z] := by
  obtain ⟨k, e1, e2, _⟩ := DataW.trod_int un3 h
  simp only [Prod.mk.injEq, DataW.lit.injEq, Lit.int.injEq, true_and] at e2
  rw [e1, ← e2.1]
theorem trod_pair {H : Type} {enc : TypeId × Value → H} {W : World} {base : Nat} {spare : Nat → Bool} {held : Bool} {m : Nat} {a b : Value} {u v : Int} {p : List MemPlace} (h : DataW.trod enc Tryd.prog W base spare held m 84 [a, b] = some (.agg [.lit (.int .i64 u), .lit (.int .i64 v)], p)) : a = .int .i64 u ∧ b = .int .i64 v := by
  obtain ⟨xs, m1, rfl, hx, hl, hn, hel⟩ := DataW.trod_array un84 h
  have c3 : Tryd.prog.cellsOf 3 = 1 := by kernel_rfl
  have h0 := hel 0 (by decide)
  have h1 := hel 1 (by decide)
  rw [c3] at h0 h1
  match xs, hn, hx, h0, h1 with
  | [x0, x1], _, hx, h0, h1 =>
    simp only [List.map_cons, List.map_nil, Prod.mk.injEq, DataW.agg.injEq, List.cons.injEq, and_true] at hx
    obtain ⟨y0, z0⟩ := x0
    obtain ⟨y1, z1⟩ := x1
    obtain ⟨⟨e0, e1⟩, _⟩ := hx
    subst e0; subst e1
    have k0 := trod_i64 (show DataW.trod _ Tryd.prog W _ _ _ m1 3 [a] = some (_, z0) from h0)
    have k1 := trod_i64 (show DataW.trod _ Tryd.prog W _ _ _ m1 3 [b] = some (_, z1) from h1)
    simp only [List.cons.injEq, and_true] at k0 k1
    exact ⟨k0, k1⟩
theorem of_laid {W : World} (h : laidMetH Tryd.prog laidL W) : gRep (fun _ => True) W 0 gpt := by
  rw [MakeChecks.laidMetH_plain _ _ _ (by kernel_rfl)] at h
  obtain ⟨ps, ⟨g0, t0, cs0, f0, p0, q0, hg0, ht0, hv0, hd0, _⟩, _⟩ := h
  obtain rfl := Option.some.inj (gPts.symm.trans hg0)
  obtain rfl := Option.some.inj (tPts.symm.trans ht0)
  obtain ⟨xs, m1, rfl, hx1, hlen, hn4, hel⟩ := DataW.trod_array un85 hd0
  have c84 : Tryd.prog.cellsOf 84 = 2 := by kernel_rfl
  have c85 : Tryd.prog.cellsOf 85 = 8 := by kernel_rfl
  rw [c85] at hlen
  have h0 := hel 0 (by decide)
  have h1 := hel 1 (by decide)
  have h2 := hel 2 (by decide)
  have h3 := hel 3 (by decide)
  rw [c84] at h0 h1 h2 h3
  have hc := fun i => World.var?_cell hg0 hv0 i
  obtain ⟨cl⟩ := cs0
  match cl, hlen, xs, hn4, hx1, h0, h1, h2, h3, hc with
  | [a0, a1, a2, a3, a4, a5, a6, a7], _, [⟨y0, z0⟩, ⟨y1, z1⟩, ⟨y2, z2⟩, ⟨y3, z3⟩], _, hx1, h0, h1, h2, h3, hc =>
    simp only [Rows.laid_icehall_league_points, List.map_cons, List.map_nil, Prod.mk.injEq, DataW.agg.injEq, List.cons.injEq, and_true] at hx1
    obtain ⟨⟨e0, e1, e2, e3⟩, _⟩ := hx1
    subst e0; subst e1; subst e2; subst e3
    obtain ⟨k0, k1⟩ := trod_pair (show DataW.trod _ Tryd.prog W _ _ _ m1 84 [a0, a1] = some (_, z0) from h0)
    obtain ⟨k2, k3⟩ := trod_pair (show DataW.trod _ Tryd.prog W _ _ _ m1 84 [a2, a3] = some (_, z1) from h1)
    obtain ⟨k4, k5⟩ := trod_pair (show DataW.trod _ Tryd.prog W _ _ _ m1 84 [a4, a5] = some (_, z2) from h2)
    obtain ⟨k6, k7⟩ := trod_pair (show DataW.trod _ Tryd.prog W _ _ _ m1 84 [a6, a7] = some (_, z3) from h3)
    subst k0; subst k1; subst k2; subst k3; subst k4; subst k5; subst k6; subst k7
    have q : ∀ i u, W.cell? ⟨0, i, none⟩ = some u → Go.E.look (fun _ => True) W 0 i = some u := fun i u h => look_some.2 ⟨trivial, h⟩
    exact ⟨0, 0, rfl, ⟨_, q 0 _ (hc 0), rfl, rfl⟩, ⟨_, q 1 _ (hc 1), rfl, rfl⟩, ⟨_, q 2 _ (hc 2), rfl, rfl⟩, ⟨_, q 3 _ (hc 3), rfl, rfl⟩, ⟨_, q 4 _ (hc 4), rfl, rfl⟩, ⟨_, q 5 _ (hc 5), rfl, rfl⟩, ⟨_, q 6 _ (hc 6), rfl, rfl⟩, ⟨_, q 7 _ (hc 7), rfl, rfl⟩, trivial⟩
end Go.Proofs.YtmajlffglplcnaaDoor
