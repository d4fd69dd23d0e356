/- A part of the proof that the last text ends: what functions of the program do, told by plain data. -/
import Derived.Test.YtmkigohedfcomaaEb
/- The walk on data: a calculus over the weakest preconditions of the kit: what a call does is told by lists of plain data. Part 3 of 3. -/
set_option linter.unusedVariables false
set_option linter.unusedSimpArgs false
namespace Go.E
open Go Go.RowKit

/-! ### Rows that are given up: data from then on -/
theorem frz_rel {W0 : World} {L0 L : Lay} {e : List AV} {s : Sto} {w : World} {a : Act} (hr : Rel W0 L0 L e s w a) {g el sz : Nat} (hg : g ≠ 0) (hgs : s.get g = none) :
    ∃ L', Rel W0 L0 L' (e.map (AV.frz g el sz)) (s.frz g el sz) w a ∧ ∀ (zs : List AV) (us : List Value), AReps L w zs us → AReps L' w (zs.map (AV.frz g el sz)) us := by
  let L' : Lay := { L with own := fun b => if L.own b = some g then none else L.own b }
  have hL : ∀ (b : Nat), L.own b = none ∨ L.own b = some g → L'.own b = none := fun b hb => by
    simp only [L']; rcases hb with h | h <;> simp [h]
  have hst : Stays [g] [] L w L' w :=
    { heap := fun b hb hn => by
        have hng : L.own b ≠ some g := fun e => by have := hn g e; simp at this
        exact ⟨rfl, by simp only [L']; rw [if_neg hng]⟩
      blk := fun _ _ => rfl, hdr := fun _ _ => rfl, lk := rfl, E := fun x hx => by cases hx }
  have frz : ∀ (z : AV) (u : Value), ARep L w z u → ARep L' w (z.frz g el sz) u := fun z u hz => by
    unfold AV.frz
    split
    · rename_i g' e' s' rows'
      split
      · rename_i e1; subst e1
        split
        · rename_i e2; obtain ⟨rfl, rfl⟩ := e2
          exact ownRow_data (L := L) (w := w) (g := g') (e := e') hz.2 hL
        · trivial
      · rename_i hne'
        exact AV.stay_rep hst _ u (.inl (by simpa using hne')) hz
    · split
      · trivial
      · rename_i h; exact AV.stay_rep hst _ u (AV.men_stay _ (by simpa using h)) hz
  have frzs : ∀ (zs : List AV) (us : List Value), AReps L w zs us → AReps L' w (zs.map (AV.frz g el sz)) us := by
    intro zs
    induction zs with
    | nil => intro us h; exact h
    | cons z zs ih => intro us ⟨u, ut, e1, k1, k2⟩; exact ⟨u, ut, e1, frz z u k1, ih ut k2⟩
  have h0 : ∀ b, L.own b = some 0 → L'.own b = some 0 := fun b hb => by simp only [L']; rw [hb, if_neg (by simpa using hg.symm)]
  refine ⟨L', ?_, frzs⟩
  exact
    { slots := frzs _ _ hr.slots
      hid := hr.hid
      mks := ⟨hr.mks.1, fun r hr' => ⟨(hr.mks.2 r hr').1, h0 r (hr.mks.2 r hr').2⟩⟩
      mkb := hr.mkb
      kept := fun b o hb => ⟨(hr.kept b o hb).1, h0 b (hr.kept b o hb).2⟩
      rdk := hr.rdk
      lke := hr.lke
      lkb := hr.lkb
      lki := hr.lki
      rd := hr.rd
      objs := fun h c hc => by
        rw [Sto.get_frz] at hc
        obtain ⟨c0, hc0, rfl⟩ := Option.map_eq_some_iff.1 hc
        refine ⟨fun hh => frzs _ _ ((hr.objs h c0 hc0).1 hh), fun hh => ?_⟩
        obtain ⟨ws, k1, k2⟩ := (hr.objs h c0 hc0).2 hh
        have hhg : h ≠ g := fun e1 => by subst e1; rw [hgs] at hc0; cases hc0
        exact ⟨ws, k1.congr rfl (fun _ => rfl) (fun b hb ho => by
          have hng : L.own b ≠ some g := by rcases ho with ho | ho <;> rw [ho] <;> simp <;> first | exact hhg | exact hg.symm
          exact ⟨rfl, by simp only [L']; rw [if_neg hng]⟩), frzs _ _ k2⟩
      old := fun b hb h1 => by
        have q := hr.old b hb h1
        have hng : L.own b ≠ some g := fun e1 => hr.not_old hg b hb e1 h1
        exact ⟨by simp only [L']; rw [if_neg hng]; exact q.1, q.2⟩
      size := hr.size
      own_lt := fun b g' hb => by
        simp only [L'] at hb
        split at hb
        · cases hb
        · exact hr.own_lt b g' hb
      os := hr.os
      tape := hr.tape
      output := hr.output }
def frzEs : List (Nat × Nat × Nat) → List AV → List AV
  | [], e => e
  | (g, el, sz) :: r, e => frzEs r (e.map (AV.frz g el sz))
def frzSs : List (Nat × Nat × Nat) → Sto → Sto
  | [], s => s
  | (g, el, sz) :: r, s => frzSs r (s.frz g el sz)
def okFz (s : Sto) : List (Nat × Nat × Nat) → Prop
  | [] => True
  | (g, _, _) :: r => (g ≠ 0 ∧ s.get g = none) ∧ okFz s r
theorem okFz_frz {s : Sto} {g el sz : Nat} : ∀ {T : List (Nat × Nat × Nat)}, okFz s T → okFz (s.frz g el sz) T
  | [], _ => trivial
  | (h, _, _) :: r, ⟨⟨h1, h2⟩, h3⟩ => ⟨⟨h1, by rw [Sto.get_frz, h2]; rfl⟩, okFz_frz h3⟩
theorem frz_rels : ∀ (T : List (Nat × Nat × Nat)) {W0 : World} {L0 L : Lay} {e : List AV} {s : Sto} {w : World} {a : Act}, okFz s T → Rel W0 L0 L e s w a →
    ∃ L', Rel W0 L0 L' (frzEs T e) (frzSs T s) w a ∧ ∀ (zs : List AV) (us : List Value), AReps L w zs us → AReps L' w (frzEs T zs) us
  | [], _, _, L, _, _, _, _, _, hr => ⟨L, hr, fun _ _ h => h⟩
  | (g, el, sz) :: r, _, _, L, e, s, w, a, ⟨⟨h1, h2⟩, h3⟩, hr => by
    obtain ⟨L1, k1, k2⟩ := frz_rel (el := el) (sz := sz) hr h1 h2
    obtain ⟨L2, q1, q2⟩ := frz_rels r (okFz_frz h3) k1
    exact ⟨L2, q1, fun zs us h => q2 _ _ (k2 zs us h)⟩
/-- A call whose rows of the call's own are given up: the result may be one of them. -/
theorem pcall_fz {P : Program} {f : Nat} {args args' : List AV} {ds : List D} {R : End → Prop} {K : AV → List AV → Sto → Prop} {Q : Exit → List AV → Sto → Prop} {e : List AV} {s : Sto} (T : List (Nat × Nat × Nat)) (h : PF P f ds R) (hT : okFz s T) (hw : wk (frzEs T args) args') (ha : args' = ds.map .d)
    (hK : ∀ d, R (.ret d) → K (.d d) (frzEs T e) (frzSs T s)) (hQ : ∀ c, R (.pan c) → Q (.panic c) (frzEs T e) (frzSs T s)) : pcall P f args K Q e s := by
  refine ⟨h.1, fun W0 L0 L w a vs hr hv => ?_⟩
  obtain ⟨L', k1, k2⟩ := frz_rels T hT hr
  have hv' := Wk.reps (wk_Wk hw) (k2 _ _ hv)
  subst ha
  exact (pcall_d h hK hQ).2 W0 L0 L' w a vs k1 hv'
end Go.E
