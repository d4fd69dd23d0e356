/- A part of the proof that the last text ends: what functions of the program do, told by plain data. -/
import Derived.Test.YtkanibdihhlmgaaEb
/- The walk on data: a calculus over the weakest preconditions of the kit: what a call does is told by lists of plain data. Part 3 of 3. -/
set_option linter.unusedVariables false
set_option linter.unusedSimpArgs false
namespace Go.E
open Go Go.RowKit Go.ChangeShapes Go.WideShapes

/-! ### From what a row reads to data: with slices inside -/
inductive Sh where
  | leaf (l : Leaf)
  | sl (ss : List Sh)
def Sh.isLeaf : Sh → Bool
  | .leaf _ => true
  | _ => false
mutual
def Sh.deep : Sh → Bool
  | .leaf _ => false
  | .sl ss => !(ss.all Sh.isLeaf) || Sh.deeps ss
def Sh.deeps : List Sh → Bool
  | [] => false
  | s :: ss => s.deep || Sh.deeps ss
end
mutual
def shD : Sh → D → Prop
  | .leaf (.int k), .v (.int k' n) => k = k' ∧ (Lit.int k n).wf = true
  | .leaf .bool, .v (.bool _) => True
  | .leaf .str, .v (.string s) => s.size ≤ maxLen
  | .sl ss, .sl sz rows => sz = ss.length ∧ ∀ r ∈ rows, shDs ss r
  | _, _ => False
def shDs : List Sh → List D → Prop
  | [], [] => True
  | s :: ss, d :: ds => shD s d ∧ shDs ss ds
  | _, _ => False
end
def shF (f : TypeId → Option (List Sh)) : Nat → List Field → Option (List Sh)
  | _, [] => some []
  | o, x :: xs => if x.offset ≠ o then none else match f x.type with | some l => (shF f (o + l.length) xs).map (l ++ ·) | none => none
/-- The cells of a type that leads to slices alone. -/
def sh (P : Program) : Nat → TypeId → Option (List Sh)
  | 0, _ => none
  | n + 1, t => match P.underlying t with
    | some (.int k) => if P.cellsOf t = 1 then some [.leaf (.int k)] else none
    | some .bool => if P.cellsOf t = 1 then some [.leaf .bool] else none
    | some .string => if P.cellsOf t = 1 then some [.leaf .str] else none
    | some (.slice e) => if P.cellsOf t = 1 then (sh P n e).map (fun ss => [.sl ss]) else none
    | some (.struct fs) => match shF (sh P n) 0 fs.toList with
      | some l => if l.length = P.cellsOf t then some l else none
      | none => none
    | _ => none
theorem sh_cells {P : Program} {n : Nat} {t : TypeId} {ls : List Sh} (h : sh P n t = some ls) : P.cellsOf t = ls.length := by
  cases n with
  | zero => simp [sh] at h
  | succ n =>
    unfold sh at h
    split at h
    · split at h
      · cases h; assumption
      · cases h
    · split at h
      · cases h; assumption
      · cases h
    · split at h
      · cases h; assumption
      · cases h
    · split at h
      · obtain ⟨ss, _, rfl⟩ := Option.map_eq_some_iff.1 h; assumption
      · cases h
    · split at h
      · split at h
        · cases h; rename_i h1; exact h1.symm
        · cases h
      · cases h
    · cases h
theorem shDs_append : ∀ {l1 l2 : List Sh} {x1 x2 : List D}, shDs l1 x1 → shDs l2 x2 → shDs (l1 ++ l2) (x1 ++ x2)
  | [], _, [], _, _, h => h
  | [], _, _ :: _, _, h, _ => h.elim
  | _ :: _, _, [], _, h, _ => h.elim
  | _ :: _, _, _ :: _, _, h, k => ⟨h.1, shDs_append h.2 k⟩
theorem shDs_len : ∀ {l : List Sh} {x : List D}, shDs l x → x.length = l.length
  | [], [], _ => rfl
  | [], _ :: _, h => h.elim
  | _ :: _, [], h => h.elim
  | _ :: l, _ :: x, h => by simp [shDs_len h.2]
theorem deeps_append : ∀ {l1 l2 : List Sh}, Sh.deeps (l1 ++ l2) = (Sh.deeps l1 || Sh.deeps l2)
  | [], _ => by simp [Sh.deeps]
  | s :: l1, l2 => by simp [Sh.deeps, deeps_append (l1 := l1) (l2 := l2), Bool.or_assoc]
/-- An address that is no place inside a value of the world's own. -/
def spotOk (u : Value) : Prop := ∀ a len cap, u = .slice (some a) len cap → a.spot = none
theorem okWide_spot {P : Program} {w : World} {r : Reach} {b : Nat} {t : TypeId} {u : Value} (h : Cell.okWide P w r b t u) : spotOk u := by
  rintro a len cap rfl
  have h : Cell.ok P w r b t (.slice (some a) len cap) := by
    unfold Cell.okWide at h
    split at h <;> first | (rename_i h1; cases h1; done) | exact h
  unfold Cell.ok at h
  split at h <;> simp_all [World.has]

section
variable {H : Type} {enc : TypeId × Value → H} {P : Program} {w : World} {base : Nat} {sp : Nat → Bool} {held : Bool}
def heapOk (w : World) : Prop := ∀ a u, w.cell? a = some u → spotOk u
theorem shF_d {n : Nat} {cs : List Value} (ih : ∀ t ls, sh P n t = some ls → ∀ fuel cs x, (ls.all Sh.isLeaf = true ∨ ∀ u ∈ cs, spotOk u) → (Sh.deeps ls = true → heapOk w) → DataW.trod enc P w base sp held fuel t cs = some x → ∃ ds, DReps (look (fun _ => True) w) ds cs ∧ shDs ls ds ∧ ∀ u ∈ cs, u.oneCell' = true) (fuel : Nat) :
    ∀ (fs : List Field) (o : Nat) (ls : List Sh), shF (sh P n) o fs = some ls → (ls.all Sh.isLeaf = true ∨ ∀ u ∈ cs, spotOk u) → (Sh.deeps ls = true → heapOk w) → (∀ f ∈ fs, ∃ y, DataW.trod enc P w base sp held fuel f.type ((cs.drop f.offset).take (P.cellsOf f.type)) = some y) →
      ∃ ds, DReps (look (fun _ => True) w) ds ((cs.drop o).take ls.length) ∧ shDs ls ds ∧ ∀ u ∈ (cs.drop o).take ls.length, u.oneCell' = true
  | [], o, ls, h, _, _, _ => by
    simp [shF] at h; subst h
    exact ⟨[], by simp [DReps], trivial, by simp⟩
  | f :: fs, o, ls, h, hs, hd, hf => by
    unfold shF at h
    split at h
    · cases h
    · rename_i ho
      have ho : f.offset = o := by simpa using ho
      split at h
      · rename_i l1 h1
        obtain ⟨l2, h2, rfl⟩ := Option.map_eq_some_iff.1 h
        obtain ⟨y, hy⟩ := hf f (by simp)
        rw [ho, sh_cells h1] at hy
        rw [deeps_append] at hd
        have hs1 : l1.all Sh.isLeaf = true ∨ ∀ u ∈ (cs.drop o).take l1.length, spotOk u := hs.imp (fun h => by rw [List.all_append, Bool.and_eq_true] at h; exact h.1) (fun h u hu => h u (List.mem_of_mem_drop (List.mem_of_mem_take hu)))
        have hs2 : l2.all Sh.isLeaf = true ∨ ∀ u ∈ cs, spotOk u := hs.imp (fun h => by rw [List.all_append, Bool.and_eq_true] at h; exact h.2) id
        obtain ⟨d1, k1, k2, k3⟩ := ih f.type l1 h1 fuel _ y hs1 (fun h => hd (by rw [h]; rfl)) hy
        obtain ⟨d2, q1, q2, q3⟩ := shF_d ih fuel fs (o + l1.length) l2 h2 hs2 (fun h => hd (by rw [h, Bool.or_true])) (fun g hg => hf g (List.mem_cons_of_mem _ hg))
        have e : (cs.drop o).take (l1 ++ l2).length = (cs.drop o).take l1.length ++ (cs.drop (o + l1.length)).take l2.length := by
          rw [List.length_append, List.take_add, List.drop_drop]
        rw [e]
        exact ⟨d1 ++ d2, DReps.append k1 q1, shDs_append k2 q2, fun u hu => by rcases List.mem_append.1 hu with h | h; exact k3 u h; exact q3 u h⟩
      · cases h
theorem sh_d : ∀ (n : Nat) (t : TypeId) (ls : List Sh), sh P n t = some ls → ∀ (fuel : Nat) (cs : List Value) (x : DataW H × List MemPlace), (ls.all Sh.isLeaf = true ∨ ∀ u ∈ cs, spotOk u) → (Sh.deeps ls = true → heapOk w) → DataW.trod enc P w base sp held fuel t cs = some x → ∃ ds, DReps (look (fun _ => True) w) ds cs ∧ shDs ls ds ∧ ∀ u ∈ cs, u.oneCell' = true
  | 0, t, ls, h, _, _, _, _, _, _ => by simp [sh] at h
  | n + 1, t, ls, h, fuel, cs, x, hs, hd, hx => by
    unfold sh at h
    split at h
    · rename_i k hu
      split at h
      · cases h
        obtain ⟨a, rfl, _, hw⟩ := DataW.trod_int hu hx
        exact ⟨[.v (.int k a)], ⟨_, [], rfl, rfl, rfl⟩, ⟨⟨rfl, hw⟩, trivial⟩, fun u hu => by simp at hu; subst hu; rfl⟩
      · cases h
    · rename_i hu
      split at h
      · cases h
        obtain ⟨b, rfl, _⟩ := DataW.trod_bool hu hx
        exact ⟨[.v (.bool b)], ⟨_, [], rfl, rfl, rfl⟩, ⟨trivial, trivial⟩, fun u hu => by simp at hu; subst hu; rfl⟩
      · cases h
    · rename_i hu
      split at h
      · cases h
        obtain ⟨s, rfl, _, hs⟩ := DataW.trod_string hu hx
        exact ⟨[.v (.string s)], ⟨_, [], rfl, rfl, rfl⟩, ⟨hs, trivial⟩, fun u hu => by simp at hu; subst hu; rfl⟩
      · cases h
    · rename_i e hu
      split at h
      · obtain ⟨ss, hss, rfl⟩ := Option.map_eq_some_iff.1 h
        have hs' : ∀ u ∈ cs, spotOk u := hs.resolve_left (by simp [Sh.isLeaf])
        have hcells := sh_cells hss
        have hdd : Sh.deep (.sl ss) = true → heapOk w := fun h => hd (by simp only [Sh.deeps, h, Bool.true_or])
        rcases Deep.open_slice hu hx with ⟨rfl, _⟩ | ⟨a, len, cap, k, q, Dd, Pl, rfl, hb, hl, hm, hk, hxx, hi⟩
        · exact ⟨[.sl ss.length []], ⟨_, [], rfl, ⟨none, 0, 0, rfl, rfl, Nat.le_refl _, .inl ⟨rfl, rfl, rfl⟩⟩, rfl⟩, ⟨⟨rfl, by simp⟩, trivial⟩, fun u hu => by simp at hu; subst hu; rfl⟩
        · have hspot : a.spot = none := hs' _ (by simp) a len cap rfl
          obtain ⟨b, o, s⟩ := a
          simp only at hspot
          subst hspot
          have hk' : len ≤ k := by rw [hk]; split <;> omega
          have hrow : ∀ i, i < len → ∃ x, shDs ss x ∧ x.length = ss.length ∧ DCells (look (fun _ => True) w) b (o + i * ss.length) x := fun i hil => by
            obtain ⟨cs', hc, ht⟩ := hi i (by omega)
            rw [hcells] at hc
            obtain ⟨_, hcl, hat⟩ := World.cells?_some hc
            have hleaf : ss.all Sh.isLeaf = true ∨ ∀ u ∈ cs', spotOk u := by
              cases hal : ss.all Sh.isLeaf
              · refine .inr fun u hu => ?_
                obtain ⟨j, hj, hju⟩ := List.getElem_of_mem hu
                have hat' := hat j (by rw [← hcl]; exact hj)
                exact hdd (by simp only [Sh.deep, hal, Bool.not_false, Bool.true_or]) _ u (by rw [hat', List.getElem?_eq_getElem hj, hju])
              · exact .inl rfl
            obtain ⟨ds, k1, k2, k3⟩ := sh_d n e ss hss _ _ _ hleaf (fun h => hdd (by simp only [Sh.deep, h, Bool.or_true])) ht
            have hdl := shDs_len k2
            refine ⟨ds, k2, hdl, DCells.of_get fun j d hd => ?_⟩
            obtain ⟨x, hxj, hdx⟩ := k1.get j d hd
            have hj : j < ss.length := by rw [← hdl]; exact (List.getElem?_eq_some_iff.1 hd).1
            have := hat j hj
            rw [hxj, add_none, add_none] at this
            exact ⟨x, look_some.2 ⟨trivial, this⟩, k3 x (List.mem_of_getElem? hxj), hdx⟩
          have hall : ∃ rows : List (List D), rows.length = len ∧ ∀ i x, rows[i]? = some x → shDs ss x ∧ x.length = ss.length ∧ DCells (look (fun _ => True) w) b (o + i * ss.length) x := by
            clear hxx hi hx hk hk' hl hs hs'
            induction len with
            | zero => exact ⟨[], rfl, by simp⟩
            | succ q ih =>
              obtain ⟨rows, h1, h2⟩ := ih (fun i hi => hrow i (by omega))
              obtain ⟨x, h3⟩ := hrow q (by omega)
              refine ⟨rows ++ [x], by simp [h1], fun i y hy => ?_⟩
              rw [List.getElem?_append] at hy
              split at hy
              · exact h2 i y hy
              · rename_i hge
                have hi0 : i - rows.length = 0 := by
                  cases hz : i - rows.length with
                  | zero => rfl
                  | succ z => rw [hz] at hy; simp at hy
                rw [hi0] at hy
                simp at hy; subst hy
                have : i = q := by omega
                subst this; exact h3
          obtain ⟨rows, h1, h2⟩ := hall
          refine ⟨[.sl ss.length rows], ⟨_, [], rfl, ⟨_, _, _, rfl, h1.symm, hl, .inr ⟨b, o, rfl, DRows.of_get fun i x hx => ?_⟩⟩, rfl⟩, ⟨⟨rfl, fun x hx => ?_⟩, trivial⟩, fun u hu => by simp at hu; subst hu; rfl⟩
          · have := h2 i x (by simpa using hx)
            exact ⟨this.2.1, by simpa using this.2.2⟩
          · obtain ⟨i, hi, e⟩ := List.getElem_of_mem hx
            exact (h2 i x (by rw [List.getElem?_eq_getElem hi, e])).1
      · cases h
    · rename_i fs hu
      split at h
      · rename_i l hl
        split at h
        · rename_i hlen
          cases h
          obtain ⟨ys, n', hn', hy, hc, hyl, hf⟩ := DataW.trod_struct hu hx
          obtain ⟨ds, k1, k2, k3⟩ := shF_d (cs := cs) (fun t ls h fuel cs x hs hd hx => sh_d n t ls h fuel cs x hs hd hx) n' fs.toList 0 ls hl hs hd (fun f hfm => by
            obtain ⟨i, hi, he⟩ := List.getElem_of_mem hfm
            have hfi : fs[i]? = some f := by rw [← Array.getElem?_toList, List.getElem?_eq_getElem hi, he]
            have := hf i f hfi
            have hys : i < ys.length := by rw [hyl]; simpa using hi
            exact ⟨ys[i], this.trans (List.getElem?_eq_getElem hys)⟩)
          have e : (cs.drop 0).take ls.length = cs := by rw [List.drop_zero, hlen, ← hc, List.take_length]
          rw [e] at k1 k3
          exact ⟨ds, k1, k2, k3⟩
        · cases h
      · cases h
    · cases h
/-- An argument that is a struct, with slices inside. -/
theorem arg_shS {r : Reach} {b0 n : Nat} {t : TypeId} {fs : Array Field} {ls : List Sh} {v : Value} {d : DataW H} {ps : List MemPlace} (hu : P.underlying t = some (.struct fs)) (hf : sh P n t = some ls) (hd : Sh.deeps ls = true → heapOk w) (hv : Value.okWide P w r b0 t v) (h : DataW.Trod enc P w base sp held t v d ps) :
    ∃ ds, shDs ls ds ∧ DRep (look (fun _ => True) w) (.agg ds) v := by
  simp only [Value.okWide, hu] at hv
  obtain ⟨cs, rfl, _, ts, _, _, hok⟩ := hv
  obtain ⟨fuel, hx⟩ := h
  obtain ⟨ds, k1, k2, _⟩ := sh_d n t ls hf fuel _ _ (.inr fun u hu => by
    obtain ⟨i, hi, he⟩ := List.getElem_of_mem hu
    obtain ⟨u', _, h2⟩ := hok i u (by rw [← Array.getElem?_toList]; exact (List.getElem?_eq_getElem hi).trans (congrArg some he))
    exact okWide_spot h2) hd hx
  exact ⟨ds, k2, cs, rfl, k1⟩
/-- An argument that is a slice, with slices inside. -/
theorem arg_shL {r : Reach} {b0 n : Nat} {t e : TypeId} {ss : List Sh} {v : Value} {d : DataW H} {ps : List MemPlace} (hu : P.underlying t = some (.slice e)) (hf : sh P n t = some [.sl ss]) (hd : Sh.deeps [.sl ss] = true → heapOk w) (hv : Value.okWide P w r b0 t v) (h : DataW.Trod enc P w base sp held t v d ps) :
    ∃ rows, (∀ x ∈ rows, shDs ss x) ∧ DRep (look (fun _ => True) w) (.sl ss.length rows) v := by
  obtain ⟨a0, len0, cap0, rfl⟩ := okWide_slice hu hv
  obtain ⟨fuel, hx⟩ := h
  simp only [Value.okWide, hu] at hv
  obtain ⟨ds, k1, k2, _⟩ := sh_d n t _ hf fuel _ _ (.inr fun u hu => by
    simp [Value.cells] at hu; subst hu; exact okWide_spot hv) hd hx
  match ds, k2 with
  | [.sl sz rows], ⟨⟨h1, h2⟩, _⟩ =>
    subst h1
    obtain ⟨u, ut, e1, e2, _⟩ := k1
    simp [Value.cells] at e1
    obtain ⟨rfl, rfl⟩ := e1
    exact ⟨rows, h2, e2⟩
end
theorem leafD_of : ∀ {ls : List Leaf} {x : List D}, shDs (ls.map .leaf) x → leafD ls x
  | [], [], _ => trivial
  | [], _ :: _, h => h.elim
  | .int _ :: ls, .v (.int _ _) :: x, h => ⟨h.1, leafD_of h.2⟩
  | .bool :: ls, .v (.bool _) :: x, h => leafD_of (ls := ls) (x := x) h.2
  | .str :: ls, .v (.string _) :: x, h => ⟨h.1, leafD_of h.2⟩
  | l :: ls, [], h => h.elim
end Go.E

namespace Go.E
open Go Go.RowKit

/-! ### Rows that are given up: data from then on -/
theorem frz_rel {W0 : World} {L0 L : Lay} {e : List AV} {s : Sto} {w : World} {a : Act} (hr : Rel W0 L0 L e s w a) {g el sz : Nat} (hg : g ≠ 0) (hgs : s.get g = none) :
    ∃ L', Rel W0 L0 L' (e.map (AV.frz g el sz)) (s.frz g el sz) w a ∧ ∀ (zs : List AV) (us : List Value), AReps L w zs us → AReps L' w (zs.map (AV.frz g el sz)) us := by
  let L' : Lay := { L with own := fun b => if L.own b = some g then none else L.own b }
  have hL : ∀ (b : Nat), L.own b = none ∨ L.own b = some g → L'.own b = none := fun b hb => by
    simp only [L']; rcases hb with h | h <;> simp [h]
  have hst : Stays [g] [] L w L' w :=
    { heap := fun b hb hn => by
        have hng : L.own b ≠ some g := fun e => by have := hn g e; simp at this
        exact ⟨rfl, by simp only [L']; rw [if_neg hng]⟩
      blk := fun _ _ => rfl, hdr := fun _ _ => rfl, lk := rfl, E := fun x hx => by cases hx }
  have frz : ∀ (z : AV) (u : Value), ARep L w z u → ARep L' w (z.frz g el sz) u := fun z u hz => by
    unfold AV.frz
    split
    · rename_i g' e' s' rows'
      split
      · rename_i e1; subst e1
        split
        · rename_i e2; obtain ⟨rfl, rfl⟩ := e2
          exact ownRow_data (L := L) (w := w) (g := g') (e := e') hz.2 hL
        · trivial
      · rename_i hne'
        exact AV.stay_rep hst _ u (.inl (by simpa using hne')) hz
    · split
      · trivial
      · rename_i h; exact AV.stay_rep hst _ u (AV.men_stay _ (by simpa using h)) hz
  have frzs : ∀ (zs : List AV) (us : List Value), AReps L w zs us → AReps L' w (zs.map (AV.frz g el sz)) us := by
    intro zs
    induction zs with
    | nil => intro us h; exact h
    | cons z zs ih => intro us ⟨u, ut, e1, k1, k2⟩; exact ⟨u, ut, e1, frz z u k1, ih ut k2⟩
  have h0 : ∀ b, L.own b = some 0 → L'.own b = some 0 := fun b hb => by simp only [L']; rw [hb, if_neg (by simpa using hg.symm)]
  refine ⟨L', ?_, frzs⟩
  exact
    { slots := frzs _ _ hr.slots
      hid := hr.hid
      mks := ⟨hr.mks.1, fun r hr' => ⟨(hr.mks.2 r hr').1, h0 r (hr.mks.2 r hr').2⟩⟩
      mkb := hr.mkb
      kept := fun b o hb => ⟨(hr.kept b o hb).1, h0 b (hr.kept b o hb).2⟩
      rdk := hr.rdk
      lke := hr.lke
      lkb := hr.lkb
      lki := hr.lki
      rd := hr.rd
      objs := fun h c hc => by
        rw [Sto.get_frz] at hc
        obtain ⟨c0, hc0, rfl⟩ := Option.map_eq_some_iff.1 hc
        refine ⟨fun hh => frzs _ _ ((hr.objs h c0 hc0).1 hh), fun hh => ?_⟩
        obtain ⟨ws, k1, k2⟩ := (hr.objs h c0 hc0).2 hh
        have hhg : h ≠ g := fun e1 => by subst e1; rw [hgs] at hc0; cases hc0
        exact ⟨ws, k1.congr rfl (fun _ => rfl) (fun b hb ho => by
          have hng : L.own b ≠ some g := by rcases ho with ho | ho <;> rw [ho] <;> simp <;> first | exact hhg | exact hg.symm
          exact ⟨rfl, by simp only [L']; rw [if_neg hng]⟩), frzs _ _ k2⟩
      old := fun b hb h1 => by
        have q := hr.old b hb h1
        have hng : L.own b ≠ some g := fun e1 => hr.not_old hg b hb e1 h1
        exact ⟨by simp only [L']; rw [if_neg hng]; exact q.1, q.2⟩
      size := hr.size
      own_lt := fun b g' hb => by
        simp only [L'] at hb
        split at hb
        · cases hb
        · exact hr.own_lt b g' hb
      os := hr.os
      tape := hr.tape
      output := hr.output }
def frzEs : List (Nat × Nat × Nat) → List AV → List AV
  | [], e => e
  | (g, el, sz) :: r, e => frzEs r (e.map (AV.frz g el sz))
def frzSs : List (Nat × Nat × Nat) → Sto → Sto
  | [], s => s
  | (g, el, sz) :: r, s => frzSs r (s.frz g el sz)
def okFz (s : Sto) : List (Nat × Nat × Nat) → Prop
  | [] => True
  | (g, _, _) :: r => (g ≠ 0 ∧ s.get g = none) ∧ okFz s r
theorem okFz_frz {s : Sto} {g el sz : Nat} : ∀ {T : List (Nat × Nat × Nat)}, okFz s T → okFz (s.frz g el sz) T
  | [], _ => trivial
  | (h, _, _) :: r, ⟨⟨h1, h2⟩, h3⟩ => ⟨⟨h1, by rw [Sto.get_frz, h2]; rfl⟩, okFz_frz h3⟩
theorem frz_rels : ∀ (T : List (Nat × Nat × Nat)) {W0 : World} {L0 L : Lay} {e : List AV} {s : Sto} {w : World} {a : Act}, okFz s T → Rel W0 L0 L e s w a →
    ∃ L', Rel W0 L0 L' (frzEs T e) (frzSs T s) w a ∧ ∀ (zs : List AV) (us : List Value), AReps L w zs us → AReps L' w (frzEs T zs) us
  | [], _, _, L, _, _, _, _, _, hr => ⟨L, hr, fun _ _ h => h⟩
  | (g, el, sz) :: r, _, _, L, e, s, w, a, ⟨⟨h1, h2⟩, h3⟩, hr => by
    obtain ⟨L1, k1, k2⟩ := frz_rel (el := el) (sz := sz) hr h1 h2
    obtain ⟨L2, q1, q2⟩ := frz_rels r (okFz_frz h3) k1
    exact ⟨L2, q1, fun zs us h => q2 _ _ (k2 zs us h)⟩
/-- A call whose rows of the call's own are given up: the result may be one of them. -/
theorem pcall_fz {P : Program} {f : Nat} {args args' : List AV} {ds : List D} {R : End → Prop} {K : AV → List AV → Sto → Prop} {Q : Exit → List AV → Sto → Prop} {e : List AV} {s : Sto} (T : List (Nat × Nat × Nat)) (h : PF P f ds R) (hT : okFz s T) (hw : wk (frzEs T args) args') (ha : args' = ds.map .d)
    (hK : ∀ d, R (.ret d) → K (.d d) (frzEs T e) (frzSs T s)) (hQ : ∀ c, R (.pan c) → Q (.panic c) (frzEs T e) (frzSs T s)) : pcall P f args K Q e s := by
  refine ⟨h.1, fun W0 L0 L w a vs hr hv => ?_⟩
  obtain ⟨L', k1, k2⟩ := frz_rels T hT hr
  have hv' := Wk.reps (wk_Wk hw) (k2 _ _ hv)
  subst ha
  exact (pcall_d h hK hQ).2 W0 L0 L' w a vs k1 hv'
end Go.E

namespace Go.E
open Go Go.RowKit Go.Maps
/-! ### A loop that turns the rows of one slice of the caller's own -/
def AV.ups (g : Nat) (rows : List (List D)) : AV → AV
  | .own g' e s r => if g' = g then .own g' e s rows else .own g' e s r
  | x => x
def Sto.ups (g : Nat) (rows : List (List D)) : Sto → Sto
  | [] => []
  | (h, c) :: r => (h, c.map (AV.ups g rows)) :: Sto.ups g rows r
section
variable {g : Nat} {rows : List (List D)}
theorem ups_own {g' e s : Nat} {r : List (List D)} : AV.ups g rows (.own g' e s r) = if g' = g then .own g' e s rows else .own g' e s r := rfl
theorem ups_any : AV.ups g rows .any = .any := rfl
theorem ups_d {d : D} : AV.ups g rows (.d d) = .d d := rfl
theorem ups_ref {a b : Nat} : AV.ups g rows (.ref a b) = .ref a b := rfl
theorem ups_clo {f : Fn} {a b : List AV} : AV.ups g rows (.clo f a b) = .clo f a b := rfl
theorem ups_nil : Sto.ups g rows [] = [] := rfl
theorem ups_cons {h : Nat} {c : List AV} {r : Sto} : Sto.ups g rows ((h, c) :: r) = (h, c.map (AV.ups g rows)) :: Sto.ups g rows r := rfl
end
theorem loop_r {P : Program} {C : CT} {O : Nat → Sch} {tb : Nat} (hC : C.ok P) (hm : P.follows .mixedOrders = true) {c : Code} (ho : okO O c = true) {Q : Kt} {i : At c} {j : At Q} {e : List AV} {s : Sto} {σ : Type} (g : Nat) (R : σ → List (List D)) (E : σ → List (Nat × AV)) (I : σ → Prop) (μ : σ → Nat) (nx : σ → σ) (x0 : σ)
    (h0 : I x0) (hw : wk e (setAll e (E x0)) ∧ wkG s (s.ups g (R x0)))
    (round : ∀ x, I x → xW P C O tb c (xS (fun e' s' => (I (nx x) ∧ μ (nx x) < μ x) ∧ wk e' (setAll e (E (nx x))) ∧ wkG s' (s.ups g (R (nx x)))) Q (mk _) (mk _)) (mk _) (mk _) (setAll e (E x)) (s.ups g (R x))) : xL P c Q i j e s :=
  loop_go' hC hm ho E (fun x => s.ups g (R x)) I μ nx x0 h0 hw round
end Go.E

namespace Go.E
open Go Go.RowKit Go.Maps
/-- The nil slice as data: a slice without rows. -/
theorem seedD {P : Program} {Q : Kt} {e : List AV} {s : Sto} {c : Code} {m1 : At c} {m2 : At Q} (n sz : Nat) (he : e[n]? = some (.d (.v (.slice none 0 0))))
    (h : xL P c Q m1 m2 (e.set n (.d (.sl sz []))) s) : xL P c Q m1 m2 e s := fun W0 L0 L w a hr => by
  obtain ⟨u, hu, hx⟩ := hr.slots.get n _ he
  have hx : u = .slice none 0 0 := hx
  subst hx
  refine h W0 L0 L w a { hr with slots := ?_ }
  have hrow : ARep L w (.d (.sl sz [])) (.slice none 0 0) := ⟨none, 0, 0, rfl, rfl, Nat.le_refl _, .inl ⟨rfl, rfl, rfl⟩⟩
  have := AReps.set hr.slots n hrow
  have hset : a.tmps.toList.set n (.slice none 0 0) = a.tmps.toList := by
    apply List.ext_getElem?
    intro i
    by_cases hi : n = i
    · subst hi; rw [List.getElem?_set_self', hu]; rfl
    · rw [List.getElem?_set_ne hi]
  rwa [hset] at this
/-- A loop ahead of whose last round rows of the call's own are given up. -/
theorem loop_f {P : Program} {C : CT} {O : Nat → Sch} {tb : Nat} (hC : C.ok P) (hm : P.follows .mixedOrders = true) {c : Code} (ho : okO O c = true) {Q : Kt} {i : At c} {j : At Q} {e : List AV} {s : Sto} (T : List (Nat × Nat × Nat)) {σ : Type} (E : σ → List (Nat × AV)) (I : σ → Prop) (z : σ → Bool) (μ : σ → Nat) (nx : σ → σ) (x0 : σ)
    (h0 : I x0) (hT : okFz s T) (hw : wk e (setAll e (E x0)))
    (round : ∀ x, I x → z x = false → xW P C O tb c (xS (fun e' s' => (I (nx x) ∧ μ (nx x) < μ x) ∧ wk e' (setAll e (E (nx x))) ∧ wkG s' s) Q (mk _) (mk _)) (mk _) (mk _) (setAll e (E x)) s)
    (last : ∀ x, I x → z x = true → xW P C O tb c (xS (fun _ _ => False) Q (mk _) (mk _)) (mk _) (mk _) (frzEs T (setAll e (E x))) (frzSs T s)) : xL P c Q i j e s :=
  fun W0 L0 L w a hr => by
  refine wpIn_loop_ghost (fun n a w => ∃ x, I x ∧ μ x = n ∧ ∃ L, Rel W0 L0 L (setAll e (E x)) s w a) (μ x0) ⟨x0, h0, rfl, L, hr.weaken (wk_Wk hw) (wkS_get (wkS_refl s))⟩ ?_
  rintro n a w ⟨x, hx, rfl, L, hr⟩
  cases hz : z x
  · refine Code.wpIn_mono (lift_seq fun L e' s' a w h1 h2 => ?_) (pwp_sound hC hm c ho (round x hx hz) W0 L0 L w a hr)
    exact ⟨μ (nx x), h2.1.2, nx x, h2.1.1, rfl, L, h1.weaken (wk_Wk h2.2.1) (wkG_get h2.2.2)⟩
  · obtain ⟨L', h1, _⟩ := frz_rels T hT hr
    refine Code.wpIn_mono (lift_seq fun L e' s' a w h1 h2 => ?_) (pwp_sound hC hm c ho (last x hx hz) W0 L0 L' w a h1)
    exact h2.elim
end Go.E

namespace Go.E
open Go Go.RowKit Go.Maps
/-! ### Functions that read the variables of the call's own: arguments are read through the store -/
theorem pcall_s {P : Program} {f : Nat} {args : List AV} {ds : List D} {R : End → Prop} {K : AV → List AV → Sto → Prop} {Q : Exit → List AV → Sto → Prop} {e : List AV} {s : Sto} (h : PF P f ds R) (ha : AV.outs s args = some ds)
    (hK : ∀ d, R (.ret d) → d.flat = true ∧ K (.d d) e s) (hQ : ∀ c, R (.pan c) → Q (.panic c) e s) : pcall P f args K Q e s := by
  refine ⟨h.1, fun W0 L0 L w a vs hr hv => (h.2 (fun _ => True) w vs (outL_rep (outF_rep hr (fun _ _ => trivial) (fun _ _ _ _ => trivial) 6) ha hv)).mono fun en w' ⟨hb, hen⟩ => ?_⟩
  have hr' := hr.grow hb
  cases en with
  | returned v =>
    obtain ⟨d, h1, h2⟩ := hen
    exact ⟨L, e, s, .d d, hr', D.flat_rep (hK d h1).1 h2, (hK d h1).2⟩
  | panicked c => exact ⟨L, e, s, hr', hQ c hen⟩
  | outgrown => exact hen
/-- As ent, at arguments that were read through the store. -/
def entS {α : Type} (P1 : α → List D) (pre : α → Prop) (R : α → D) (o : Option (List D)) (K : AV → List AV → Sto → Prop) (_ : At K) (e : List AV) (s : Sto) : Prop :=
  ∃ a, o = some (P1 a) ∧ pre a ∧ (R a).flat = true ∧ K (.d (R a)) e s
theorem entS_ok {α : Type} {P : Program} {f : Nat} {P1 : α → List D} {pre : α → Prop} {R : α → D} (h : ∀ a, pre a → PF P f (P1 a) (fun x => x = .ret (R a))) {args : List AV} {K : AV → List AV → Sto → Prop} {Q : Kt} {i : At K} {e : List AV} {s : Sto}
    (he : entS P1 pre R (AV.outs s args) K i e s) : pcall P f args K Q e s := by
  obtain ⟨a, h1, h2, h3, h4⟩ := he
  exact pcall_s (h a h2) h1 (fun x hx => by cases hx; exact ⟨h3, h4⟩) (fun c hc => by cases hc)
theorem entS_iff {α : Type} {P1 : α → List D} {pre : α → Prop} {R : α → D} {K : AV → List AV → Sto → Prop} {i : At K} {e : List AV} {s : Sto} (a : α) (hinj : ∀ b, P1 b = P1 a → b = a) :
    entS P1 pre R (some (P1 a)) K i e s = (pre a ∧ (R a).flat = true ∧ K (.d (R a)) e s) := by
  apply propext
  constructor
  · rintro ⟨b, h1, h2, h3, h4⟩
    obtain rfl := hinj b (Option.some.inj h1).symm
    exact ⟨h2, h3, h4⟩
  · rintro ⟨h2, h3, h4⟩
    exact ⟨a, rfl, h2, h3, h4⟩
end Go.E

namespace Go.E
open Go Go.RowKit
section
variable {P : Program} {C : CT} {O : Nat → Sch} {tb : Nat} {Q : Kt} {e : List AV} {s : Sto}
/-- A range over a function with a cut behind it, and a fact that holds there. -/
theorem rng_cutP {f : Operand} {ps : Array Nat} {as bd : Code} {i1 : At as} {i2 : At bd} {j : At Q} (hC : C.ok P) (G : Nat) (E1 : List (Nat × AV)) (S1 : List (Nat × List AV)) (p : Prop)
    (h : (((1000000000 ≤ G ∧ G < 2000000000) ∧ AV.mens G e = false ∧ s.mens G = false ∧ s.get G = none) ∧ xCo C (target P (aval e f) [.yld G ps.toList as bd]) (fun _ e' s' => xRg G (xS (fun e' s' => p ∧ wk e' (setAll e E1) ∧ wkG s' (updAll s S1)) Q (mk _) (mk _)) (mk _) e' s') noK (mk _) (mk _) e (s.ins G (zcell 0 :: e))))
    (hQ : p → Q .normal (setAll e E1) (updAll s S1)) : xRF P f ps as bd Q i1 i2 j e s := fun W0 L0 L w a hr => by
  have := rng_sound (P := P) (C := C) hC.f (G := G) (f := f) (ps := ps) (as := as) (bd := bd) (Q := xS (fun e' s' => p ∧ wk e' (setAll e E1) ∧ wkG s' (updAll s S1)) Q (mk _) (mk _)) h W0 L0 L w a hr
  refine Code.wpIn_mono (fun x a w ⟨L, e', s', h1, h2⟩ => ?_) this
  cases x with
  | normal => exact ⟨L, _, _, h1.weaken (wk_Wk h2.2.1) (wkG_get h2.2.2), hQ h2.1⟩
  | _ => exact ⟨L, e', s', h1, h2⟩
end
end Go.E
