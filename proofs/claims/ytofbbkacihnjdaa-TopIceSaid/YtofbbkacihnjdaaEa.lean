/- A part of the proof that the last text ends: what functions of the program do, told by plain data. -/
import Derived.WalkKit
import Derived.OrdersHeld
import Derived.KernelRfl
import Derived.Laws.StructEq
import Derived.RowKit
import Derived.Maps.Keyed
import Derived.DeepKeys4
import Derived.Maps.RangeRun
/- The walk on data: a calculus over the weakest preconditions of the kit: what a call does is told by lists of plain data. Part 1 of 3. -/
set_option linter.unusedVariables false
set_option linter.unusedSimpArgs false
namespace Go.E
open Go

inductive D where
  | v (x : Value)
  | sl (s : Nat) (rows : List (List D))
  | agg (cs : List D)
  | ptr (cs : List D) (off : Nat)
  | iface (t : TypeId) (x : D)
  | clo (f : Fn) (first cap : List D)
  | tup (xs : List D)

abbrev Mem := Nat → Nat → Option Value

mutual
def DRep (m : Mem) : D → Value → Prop
  | .v x, u => u = x
  | .sl s rows, u => ∃ a n c, u = .slice a n c ∧ n = rows.length ∧ n ≤ c ∧ ((a = a ∧ n = 0 ∧ c = 0) ∨ ∃ b o, a = some ⟨b, o, none⟩ ∧ DRows m b o s 0 rows)
  | .agg cs, u => ∃ us : Array Value, u = .agg us ∧ DReps m cs us.toList
  | .ptr cs off, u => ∃ b o, u = .pointer (some ⟨b, o + off, none⟩) ∧ DCells m b o cs
  | .iface t x, u => ∃ y, u = .iface t y ∧ DRep m x y
  | .clo f x y, u => ∃ xs ys : Array Value, u = .func f xs ys ∧ DReps m x xs.toList ∧ DReps m y ys.toList
  | .tup xs, u => ∃ us : Array Value, u = .tuple us ∧ DReps m xs us.toList
def DReps (m : Mem) : List D → List Value → Prop
  | [], us => us = []
  | d :: ds, us => ∃ u ut, us = u :: ut ∧ DRep m d u ∧ DReps m ds ut
def DCells (m : Mem) (b : Nat) : Nat → List D → Prop
  | _, [] => True
  | o, d :: ds => (∃ u, m b o = some u ∧ u.oneCell' = true ∧ DRep m d u) ∧ DCells m b (o + 1) ds
def DRows (m : Mem) (b o s : Nat) : Nat → List (List D) → Prop
  | _, [] => True
  | i, r :: rs => r.length = s ∧ DCells m b (o + i * s) r ∧ DRows m b o s (i + 1) rs
end

def Mem.le (m m' : Mem) : Prop := ∀ b o u, m b o = some u → m' b o = some u
theorem Mem.le_refl (m : Mem) : m.le m := fun _ _ _ h => h
theorem Mem.le_trans {a b c : Mem} (h : a.le b) (k : b.le c) : a.le c := fun _ _ _ x => k _ _ _ (h _ _ _ x)

mutual
theorem DRep.mono {m m' : Mem} (h : m.le m') : ∀ (d : D) (u : Value), DRep m d u → DRep m' d u
  | .v _, _, k => k
  | .sl _ rows, _, ⟨a, n, c, e, e2, e3, k⟩ => ⟨a, n, c, e, e2, e3, k.imp id fun ⟨b, o, e, k⟩ => ⟨b, o, e, DRows.mono h rows _ _ _ _ k⟩⟩
  | .agg cs, _, ⟨us, e, k⟩ => ⟨us, e, DReps.mono h cs _ k⟩
  | .ptr cs _, _, ⟨b, o, e, k⟩ => ⟨b, o, e, DCells.mono h cs _ _ k⟩
  | .iface _ x, _, ⟨y, e, k⟩ => ⟨y, e, DRep.mono h x y k⟩
  | .clo _ x y, _, ⟨xs, ys, e, k1, k2⟩ => ⟨xs, ys, e, DReps.mono h x _ k1, DReps.mono h y _ k2⟩
  | .tup xs, _, ⟨us, e, k⟩ => ⟨us, e, DReps.mono h xs _ k⟩
theorem DReps.mono {m m' : Mem} (h : m.le m') : ∀ (ds : List D) (us : List Value), DReps m ds us → DReps m' ds us
  | [], _, k => k
  | d :: ds, _, ⟨u, ut, e, k1, k2⟩ => ⟨u, ut, e, DRep.mono h d u k1, DReps.mono h ds ut k2⟩
theorem DCells.mono {m m' : Mem} (h : m.le m') : ∀ (ds : List D) (b o : Nat), DCells m b o ds → DCells m' b o ds
  | [], _, _, _ => trivial
  | d :: ds, b, o, ⟨⟨u, hu, k1, k⟩, k2⟩ => ⟨⟨u, h _ _ _ hu, k1, DRep.mono h d u k⟩, DCells.mono h ds b (o + 1) k2⟩
theorem DRows.mono {m m' : Mem} (h : m.le m') : ∀ (rs : List (List D)) (b o s i : Nat), DRows m b o s i rs → DRows m' b o s i rs
  | [], _, _, _, _, _ => trivial
  | r :: rs, b, o, s, i, ⟨e, k1, k2⟩ => ⟨e, DCells.mono h r b _ k1, DRows.mono h rs b o s (i + 1) k2⟩
end

theorem DReps.length {m : Mem} : ∀ {ds : List D} {us : List Value}, DReps m ds us → us.length = ds.length
  | [], _, k => by rw [show _ = _ from k]; rfl
  | _ :: ds, _, ⟨u, ut, e, _, k⟩ => by rw [e]; simp [DReps.length k]

theorem DReps.get {m : Mem} : ∀ {ds : List D} {us : List Value}, DReps m ds us → ∀ (i : Nat) (d : D), ds[i]? = some d → ∃ u, us[i]? = some u ∧ DRep m d u
  | [], _, _, i, d, h => by simp at h
  | x :: ds, _, ⟨u, ut, e, k1, k2⟩, 0, d, h => by
    simp at h; subst h; exact ⟨u, by rw [e]; rfl, k1⟩
  | x :: ds, _, ⟨u, ut, e, k1, k2⟩, i + 1, d, h => by
    obtain ⟨y, hy, hd⟩ := DReps.get k2 i d (by simpa using h)
    exact ⟨y, by rw [e]; simpa using hy, hd⟩

theorem DReps.of_get {m : Mem} : ∀ {ds : List D} {us : List Value}, us.length = ds.length → (∀ (i : Nat) (d : D) (u : Value), ds[i]? = some d → us[i]? = some u → DRep m d u) → DReps m ds us
  | [], us, h, _ => by simpa [DReps] using h
  | d :: ds, [], h, _ => by simp at h
  | d :: ds, u :: us, h, k => ⟨u, us, rfl, k 0 d u rfl rfl, DReps.of_get (by simpa using h) fun i e x h1 h2 => k (i + 1) e x (by simpa using h1) (by simpa using h2)⟩

theorem DCells.get1 {m : Mem} {b : Nat} : ∀ {ds : List D} {o : Nat}, DCells m b o ds → ∀ (i : Nat) (d : D), ds[i]? = some d → ∃ u, m b (o + i) = some u ∧ u.oneCell' = true ∧ DRep m d u
  | [], _, _, i, d, h => by simp at h
  | x :: ds, o, ⟨⟨u, hu, k⟩, k2⟩, 0, d, h => by simp at h; subst h; exact ⟨u, hu, k⟩
  | x :: ds, o, ⟨_, k2⟩, i + 1, d, h => by
    obtain ⟨u, hu, hd⟩ := DCells.get1 k2 i d (by simpa using h)
    exact ⟨u, by rw [show o + (i + 1) = o + 1 + i by omega]; exact hu, hd⟩

theorem DCells.get {m : Mem} {b : Nat} {ds : List D} {o : Nat} (h : DCells m b o ds) (i : Nat) (d : D) (hd : ds[i]? = some d) : ∃ u, m b (o + i) = some u ∧ DRep m d u :=
  let ⟨u, h1, _, h3⟩ := h.get1 i d hd
  ⟨u, h1, h3⟩

theorem DCells.of_get {m : Mem} {b : Nat} : ∀ {ds : List D} {o : Nat}, (∀ (i : Nat) (d : D), ds[i]? = some d → ∃ u, m b (o + i) = some u ∧ u.oneCell' = true ∧ DRep m d u) → DCells m b o ds
  | [], _, _ => trivial
  | x :: ds, o, h => ⟨h 0 x rfl, DCells.of_get fun i d hd => by
    obtain ⟨u, hu, k⟩ := h (i + 1) d (by simpa using hd)
    exact ⟨u, by rw [show o + 1 + i = o + (i + 1) by omega]; exact hu, k⟩⟩

theorem DRows.get {m : Mem} {b o s : Nat} : ∀ {rs : List (List D)} {i : Nat}, DRows m b o s i rs → ∀ (j : Nat) (r : List D), rs[j]? = some r → r.length = s ∧ DCells m b (o + (i + j) * s) r
  | [], _, _, j, r, h => by simp at h
  | x :: rs, i, ⟨e, k1, _⟩, 0, r, h => by simp at h; subst h; exact ⟨e, k1⟩
  | x :: rs, i, ⟨_, _, k2⟩, j + 1, r, h => by
    have := DRows.get k2 j r (by simpa using h)
    rw [show i + (j + 1) = i + 1 + j by omega]; exact this

theorem DRows.of_get {m : Mem} {b o s : Nat} : ∀ {rs : List (List D)} {i : Nat}, (∀ (j : Nat) (r : List D), rs[j]? = some r → r.length = s ∧ DCells m b (o + (i + j) * s) r) → DRows m b o s i rs
  | [], _, _ => trivial
  | x :: rs, i, h => ⟨(h 0 x rfl).1, (h 0 x rfl).2, DRows.of_get fun j r hr => by
    have := h (j + 1) r (by simpa using hr)
    rw [show i + 1 + j = i + (j + 1) by omega]; exact this⟩

def D.one : D → Bool
  | .v x => x.oneCell'
  | .agg _ => false
  | .tup _ => false
  | _ => true
theorem D.one_rep {m : Mem} {d : D} {u : Value} (h : d.one = true) (k : DRep m d u) : u.oneCell' = true := by
  cases d with
  | v x => rw [show u = x from k]; exact h
  | sl s rows => obtain ⟨a, n, c, e, _⟩ := k; rw [e]; rfl
  | ptr cs off => obtain ⟨b, o, e, _⟩ := k; rw [e]; rfl
  | iface t x => obtain ⟨y, e, _⟩ := k; rw [e]; rfl
  | clo f a b => obtain ⟨xs, ys, e, _⟩ := k; rw [e]; rfl
  | agg _ => cases h
  | tup _ => cases h

noncomputable def look (F : Nat → Prop) (w : World) : Mem := fun b o => by
  classical exact if F b then w.cell? ⟨b, o, none⟩ else none

theorem look_some {F : Nat → Prop} {w : World} {b o : Nat} {u : Value} : look F w b o = some u ↔ F b ∧ w.cell? ⟨b, o, none⟩ = some u := by
  unfold look; split <;> simp_all

theorem look_le {F F' : Nat → Prop} {w w' : World} (hF : ∀ b, F b → b < w.heap.size → F' b ∧ w'.heap[b]? = w.heap[b]?) : (look F w).le (look F' w') := by
  intro b o u h
  rw [look_some] at h ⊢
  have hb := World.block_lt_of_cell? w ⟨b, o, none⟩ h.2
  obtain ⟨h1, h2⟩ := hF b h.1 hb
  exact ⟨h1, by rw [World.cell?_of_block (w := w) h2]; exact h.2⟩

end Go.E

namespace Go.E
open Go

inductive AV where
  | any
  | d (x : D)
  | own (g e s : Nat) (rows : List (List D))
  | eref (g e s : Nat) (rows : List (List D)) (i off : Nat)
  | ref (g off : Nat)
  | tup (xs : List AV)
  | agg (xs : List AV)
  | clo (f : Fn) (first cap : List AV)
  | iface (t : TypeId) (x : AV)
  | yld (g : Nat) (ps : List Nat) (assign body : Code) (n : Nat)
  | mp (g : Nat)
  | it (g : Nat)
  | bx (g i off : Nat)

abbrev Sto := List (Nat × List AV)

def Sto.get (S : Sto) (g : Nat) : Option (List AV) :=
  match S with
  | [] => none
  | (h, c) :: r => if h = g then some c else Sto.get r g

structure LoopS where
  l : Nat
  fn : FuncId
  params : Array Nat
  assign : Code
  body : Code
  d : Nat
  tm : Array Value

structure Lay where
  own : Nat → Option Nat
  blk : Nat → Nat
  hdr : Nat → Value
  hid : List Value
  rd : Option Nat
  kp : List (Nat × Obj)
  lk : Nat → Option LoopS

def isMark (d : Deferred) : Bool := match d.target with | .collected _ => true | _ => false
def markOf (d : Deferred) : Option Nat := match d.target with | .collected r => some r | _ => none
def strip (ds : List Deferred) : List Deferred := ds.filter fun d => !isMark d
def marks (ds : List Deferred) : List Nat := ds.filterMap markOf
def lstate (z : Int) : LoopState × Option Code :=
  if z = 0 then (.ready, none) else if z = 1 then (.busy, none) else if z = -1 then (.done, some .ret) else if 2 ≤ z then (.done, some (.exit (z - 2).toNat)) else (.done, some (.goto (-z - 2).toNat))
def LoopS.at (r : LoopS) (z : Int) : Loop := { state := (lstate z).1, pending := (lstate z).2, fn := r.fn, tmps := r.tm, params := r.params, assign := r.assign, body := r.body, defers := r.d }
def undv : Value → Deferred
  | .func f first cap => { target := .fn f cap, args := first }
  | _ => default

def Lay.cel (L : Lay) (g : Nat) : Prop := L.lk g = none ∧ g < 2000000000
noncomputable def Lay.mem (L : Lay) (w : World) : Mem := look (fun b => L.own b = none) w

def OwnRow (L : Lay) (w : World) (g e s : Nat) (rows : List (List D)) (u : Value) : Prop :=
  ∃ xs, w.ownsRow 0 e s u rows.length xs ∧ (∀ b, u.ownBlock = some b → L.own b = some g) ∧ (∀ r ∈ rows, r.length = s) ∧ (∀ x ∈ xs, x.oneCell' = true) ∧ DReps (L.mem w) rows.flatten xs

mutual
def ARep (L : Lay) (w : World) : AV → Value → Prop
  | .any, _ => True
  | .d x, u => DRep (L.mem w) x u
  | .own g e s rows, u => u = L.hdr g ∧ OwnRow L w g e s rows u
  | .eref g e s rows i off, u => OwnRow L w g e s rows (L.hdr g) ∧ i < rows.length ∧ ∃ b n c, L.hdr g = .slice (some ⟨b, 0, none⟩) n c ∧ u = .pointer (some ⟨b, i * s + off, none⟩)
  | .ref g off, u => u = .pointer (some ⟨L.blk g, off, none⟩) ∧ L.cel g
  | .tup xs, u => ∃ us : Array Value, u = .tuple us ∧ AReps L w xs us.toList
  | .agg xs, u => ∃ us : Array Value, u = .agg us ∧ AReps L w xs us.toList
  | .clo f x y, u => ∃ xs ys : Array Value, u = .func f xs ys ∧ AReps L w x xs.toList ∧ AReps L w y ys.toList
  | .iface t x, u => ∃ y, u = .iface t y ∧ ARep L w x y
  | .yld g ps as bd n, u => ∃ r, L.lk g = some r ∧ u = .func (.yield r.l) #[] #[] ∧ r.params.toList = ps ∧ r.assign = as ∧ r.body = bd ∧ r.fn < n
  | .mp g, u => u = .map (some (L.blk g)) ∧ L.lk g = none ∧ 2000000000 ≤ g
  | .it g, u => u = .pointer (some ⟨L.blk g, 0, none⟩) ∧ L.lk g = none ∧ 2000000000 ≤ g
  | .bx g i off, u => ∃ (a : Array Value) (b : Nat), L.hdr g = .tuple a ∧ a[i]? = some (.int .i64 b) ∧ u = .pointer (some ⟨b, off, none⟩)
def AReps (L : Lay) (w : World) : List AV → List Value → Prop
  | [], us => us = []
  | x :: xs, us => ∃ u ut, us = u :: ut ∧ ARep L w x u ∧ AReps L w xs ut
end

theorem AReps.length {L : Lay} {w : World} : ∀ {ds : List AV} {us : List Value}, AReps L w ds us → us.length = ds.length
  | [], _, k => by rw [show _ = _ from k]; rfl
  | _ :: ds, _, ⟨u, ut, e, _, k⟩ => by rw [e]; simp [AReps.length k]

theorem AReps.get {L : Lay} {w : World} : ∀ {ds : List AV} {us : List Value}, AReps L w ds us → ∀ (i : Nat) (d : AV), ds[i]? = some d → ∃ u, us[i]? = some u ∧ ARep L w d u
  | [], _, _, i, d, h => by simp at h
  | x :: ds, _, ⟨u, ut, e, k1, k2⟩, 0, d, h => by
    simp at h; subst h; exact ⟨u, by rw [e]; rfl, k1⟩
  | x :: ds, _, ⟨u, ut, e, k1, k2⟩, i + 1, d, h => by
    obtain ⟨y, hy, hd⟩ := AReps.get k2 i d (by simpa using h)
    exact ⟨y, by rw [e]; simpa using hy, hd⟩

theorem AReps.of_get {L : Lay} {w : World} : ∀ {ds : List AV} {us : List Value}, us.length = ds.length → (∀ (i : Nat) (d : AV) (u : Value), ds[i]? = some d → us[i]? = some u → ARep L w d u) → AReps L w ds us
  | [], us, h, _ => by simpa [AReps] using h
  | d :: ds, [], h, _ => by simp at h
  | d :: ds, u :: us, h, k => ⟨u, us, rfl, k 0 d u rfl rfl, AReps.of_get (by simpa using h) fun i e x h1 h2 => k (i + 1) e x (by simpa using h1) (by simpa using h2)⟩

theorem AReps.set {L : Lay} {w : World} {ds : List AV} {us : List Value} (h : AReps L w ds us) (i : Nat) {d : AV} {u : Value} (hd : ARep L w d u) : AReps L w (ds.set i d) (us.set i u) :=
  AReps.of_get (by simp [h.length]) fun j e x h1 h2 => by
    by_cases hij : i = j
    · subst hij
      rw [List.getElem?_set_self'] at h1 h2
      cases hj : ds[i]? with
      | none => simp [hj] at h1
      | some d' =>
        obtain ⟨u', hu', _⟩ := h.get i d' hj
        simp [hj] at h1; simp [hu'] at h2; subst h1; subst h2; exact hd
    · rw [List.getElem?_set_ne hij] at h1 h2
      obtain ⟨u', hu', hr⟩ := h.get j e h1
      rw [hu'] at h2; simp at h2; subst h2; exact hr

mutual
def AV.men (k : Nat) : AV → Bool
  | .any => false
  | .d _ => false
  | .own g _ _ _ => g == k
  | .eref g _ _ _ _ _ => g == k
  | .ref g _ => g == k
  | .tup xs => AV.mens k xs
  | .agg xs => AV.mens k xs
  | .clo _ x y => AV.mens k x || AV.mens k y
  | .iface _ x => x.men k
  | .yld g _ _ _ _ => g == k
  | .mp g => g == k
  | .it g => g == k
  | .bx g _ _ => g == k
def AV.mens (k : Nat) : List AV → Bool
  | [] => false
  | x :: xs => x.men k || AV.mens k xs
end

def Sto.mens (k : Nat) : Sto → Bool
  | [] => false
  | (_, c) :: r => AV.mens k c || Sto.mens k r

structure Same (k : Nat) (L : Lay) (w : World) (L' : Lay) (w' : World) : Prop where
  heap : ∀ b, b < w.heap.size → L.own b ≠ some k → w'.heap[b]? = w.heap[b]? ∧ L'.own b = L.own b
  blk : ∀ g, g ≠ k → L'.blk g = L.blk g
  hdr : ∀ g, g ≠ k → L'.hdr g = L.hdr g
  hid : L'.hid = L.hid
  lk : ∀ g, g ≠ k → L'.lk g = L.lk g

theorem Same.mem {k : Nat} {L L' : Lay} {w w' : World} (h : Same k L w L' w') : (L.mem w).le (L'.mem w') :=
  look_le fun b hb hlt => by
    have := h.heap b hlt (by rw [hb]; simp)
    exact ⟨by rw [this.2]; exact hb, this.1⟩

theorem lt_of_heap {w : World} {b : Nat} {o : Obj} (h : w.heap[b]? = some o) : b < w.heap.size := by
  rcases Nat.lt_or_ge b w.heap.size with h' | h'
  · exact h'
  · simp [Array.getElem?_eq_none h'] at h

theorem OwnRow.same {k g e s : Nat} {L L' : Lay} {w w' : World} {rows : List (List D)} {u : Value} (h : Same k L w L' w') (hg : g ≠ k) (hr : OwnRow L w g e s rows u) : OwnRow L' w' g e s rows u := by
  obtain ⟨xs, h1, h2, h3, h5, h4⟩ := hr
  have hb : ∀ b, u.ownBlock = some b → w'.heap[b]? = w.heap[b]? ∧ L'.own b = L.own b := fun b hb => by
    have := h1.lt b hb
    exact h.heap b this.2 (by rw [h2 b hb]; simpa using hg)
  refine ⟨xs, ⟨h1.1, ?_⟩, fun b hu => by rw [(hb b hu).2]; exact h2 b hu, h3, h5, DReps.mono h.mem _ _ h4⟩
  rcases h1.2 with hn | ⟨b, cap, cur, e1, e2, e3, rest⟩
  · exact .inl hn
  · exact .inr ⟨b, cap, cur, e1, e2, by rw [(hb b (by rw [e1]; rfl)).1]; exact e3, rest⟩

mutual
theorem ARep.same {k : Nat} {L L' : Lay} {w w' : World} (h : Same k L w L' w') : ∀ (x : AV) (u : Value), x.men k = false → ARep L w x u → ARep L' w' x u
  | .any, _, _, _ => trivial
  | .d x, u, _, hr => DRep.mono h.mem x u hr
  | .own g _ s rows, u, hm, ⟨e, hr⟩ => by
    have hg : g ≠ k := by simpa [AV.men] using hm
    exact ⟨by rw [h.hdr g hg]; exact e, OwnRow.same h hg hr⟩
  | .eref g _ s rows i off, u, hm, ⟨hr, hi, b, n, c, e1, e2⟩ => by
    have hg : g ≠ k := by simpa [AV.men] using hm
    have hh := h.hdr g hg
    exact ⟨by rw [hh]; exact OwnRow.same h hg hr, hi, b, n, c, by rw [hh]; exact e1, e2⟩
  | .ref g off, u, hm, e => by
    have hg : g ≠ k := by simpa [AV.men] using hm
    exact ⟨by rw [h.blk g hg]; exact e.1, by rw [h.lk g hg]; exact e.2.1, e.2.2⟩
  | .tup xs, _, hm, ⟨us, e, k1⟩ => ⟨us, e, AReps.same h xs _ hm k1⟩
  | .agg xs, _, hm, ⟨us, e, k1⟩ => ⟨us, e, AReps.same h xs _ hm k1⟩
  | .clo _ x y, _, hm, ⟨xs, ys, e, k1, k2⟩ => by
    simp only [AV.men, Bool.or_eq_false_iff] at hm
    exact ⟨xs, ys, e, AReps.same h x _ hm.1 k1, AReps.same h y _ hm.2 k2⟩
  | .iface _ x, _, hm, ⟨y, e, k1⟩ => ⟨y, e, ARep.same h x y hm k1⟩
  | .yld g _ _ _ _, u, hm, ⟨r, e, e2⟩ => ⟨r, by rw [h.lk g (by simpa [AV.men] using hm)]; exact e, e2⟩
  | .mp g, u, hm, e => by
    have hg : g ≠ k := by simpa [AV.men] using hm
    exact ⟨by rw [h.blk g hg]; exact e.1, by rw [h.lk g hg]; exact e.2.1, e.2.2⟩
  | .it g, u, hm, e => by
    have hg : g ≠ k := by simpa [AV.men] using hm
    exact ⟨by rw [h.blk g hg]; exact e.1, by rw [h.lk g hg]; exact e.2.1, e.2.2⟩
  | .bx g i off, u, hm, ⟨a, b, e1, e2, e3⟩ => by
    have hg : g ≠ k := by simpa [AV.men] using hm
    exact ⟨a, b, by rw [h.hdr g hg]; exact e1, e2, e3⟩
theorem AReps.same {k : Nat} {L L' : Lay} {w w' : World} (h : Same k L w L' w') : ∀ (xs : List AV) (us : List Value), AV.mens k xs = false → AReps L w xs us → AReps L' w' xs us
  | [], _, _, hr => hr
  | x :: xs, _, hm, ⟨u, ut, e, k1, k2⟩ => by
    simp only [AV.mens, Bool.or_eq_false_iff] at hm
    exact ⟨u, ut, e, ARep.same h x u hm.1 k1, AReps.same h xs ut hm.2 k2⟩
end

def mapVs (es : Array MapEntry) : List Value := es.toList.map fun x => .agg #[x.key, x.val]
def bornOk (es : Array MapEntry) (n : Nat) : Prop := n = es.size ∧ ∀ (i : Nat) (x : MapEntry), es.toList[i]? = some x → x.born = i
def itVs (m : Nat) (since : Nat) (seen : Array Nat) : List Value := [.map (some m), .int .i64 since, .agg (seen.map fun (i : Nat) => Value.int .i64 (i : Int))]
def boxC (w : World) : Value → Array Value
  | .pointer (some ⟨b, _, _⟩) => (match w.heap[b]? with | some (.cells c _ _) => c | _ => #[])
  | _ => #[]
def boxVs (w : World) (es : Array MapEntry) : List Value := es.toList.map fun x => .tuple #[x.key, x.val, .agg (boxC w x.val)]
def boxOk (L : Lay) (w : World) (g : Nat) (es : Array MapEntry) : Prop := (∀ x ∈ es.toList, ∃ b c t, x.val = .pointer (some ⟨b, 0, none⟩) ∧ w.heap[b]? = some (.cells c t (0, 0)) ∧ L.own b = some g) ∧ (es.toList.map (·.val)).Nodup
def HeldB (L : Lay) (w : World) (g : Nat) (vs : List Value) : Prop :=
  (g < 2000000000 ∧ ∃ c t, w.heap[L.blk g]? = some (.cells c t (0, 0)) ∧ vs = c.toList) ∨
  ((2000000000 ≤ g ∧ g < 3000000000) ∧ ((∃ es n, w.heap[L.blk g]? = some (.map es n) ∧ bornOk es n ∧ vs = mapVs es) ∨ ∃ m since seen c0, w.heap[L.blk g]? = some (.mapIter (some m) since seen c0) ∧ c0 = since ∧ vs = itVs m since seen)) ∨
  (3000000000 ≤ g ∧ ∃ es n, w.heap[L.blk g]? = some (.map es n) ∧ bornOk es n ∧ boxOk L w g es ∧ vs = boxVs w es)
def Held (L : Lay) (w : World) (g : Nat) (vs : List Value) : Prop :=
  match L.lk g with
  | none => (L.own (L.blk g) = some g ∧ HeldB L w g vs) ∨ (5000000000 ≤ g ∧ vs = [.pointer (some ⟨g - 5000000000, 0, none⟩)])
  | some r => L.own r.l = some 0 ∧ ∃ z : Int, w.heap[r.l]? = some (.loop (r.at z)) ∧ vs = .int .i64 z :: r.tm.toList
def ObjRep (L : Lay) (w : World) (g : Nat) (cells : List AV) : Prop :=
  (g = 0 → AReps L w cells L.hid) ∧ (g ≠ 0 → ∃ vs, Held L w g vs ∧ AReps L w cells vs)

theorem Held.cells {L : Lay} {w : World} {g : Nat} {vs : List Value} (h : Held L w g vs) (hk : L.cel g) : ∃ c t, w.heap[L.blk g]? = some (.cells c t (0, 0)) ∧ L.own (L.blk g) = some g ∧ vs = c.toList := by
  unfold Held at h
  rw [hk.1] at h
  have := hk.2
  obtain ⟨h1, ⟨_, c, t, h2, h3⟩ | ⟨h4, _⟩ | ⟨h4, _⟩⟩ | ⟨h4, _⟩ := h
  · exact ⟨c, t, h2, h1, h3⟩
  · omega
  · omega
  · omega
theorem Held.mapAt {L : Lay} {w : World} {g : Nat} {vs : List Value} (h : Held L w g vs) (hk : L.lk g = none) (hg : 2000000000 ≤ g) (hg3 : g < 3000000000) (hv : ∀ m r, vs ≠ .map m :: r) : ∃ es n, w.heap[L.blk g]? = some (.map es n) ∧ bornOk es n ∧ L.own (L.blk g) = some g ∧ vs = mapVs es := by
  unfold Held at h
  rw [hk] at h
  obtain ⟨h1, ⟨h4, _⟩ | ⟨_, ⟨c, t, h2, h5, h3⟩ | ⟨m, since, seen, c0, h2, h5, h3⟩⟩ | ⟨h4, _⟩⟩ | ⟨h4, _⟩ := h
  · omega
  · exact ⟨c, t, h2, h5, h1, h3⟩
  · exact absurd h3 (hv _ _)
  · omega
  · omega
theorem Held.iterAt {L : Lay} {w : World} {g : Nat} {m : Option Nat} {r : List Value} (h : Held L w g (.map m :: r)) (hk : L.lk g = none) (hg : 2000000000 ≤ g) : ∃ b since seen c0, w.heap[L.blk g]? = some (.mapIter (some b) since seen c0) ∧ c0 = since ∧ L.own (L.blk g) = some g ∧ .map m :: r = itVs b since seen := by
  unfold Held at h
  rw [hk] at h
  obtain ⟨h1, ⟨h4, _⟩ | ⟨_, ⟨c, t, h2, h5, h3⟩ | ⟨b, since, seen, c0, h2, h5, h3⟩⟩ | ⟨_, c, t, h2, h5, h6, h3⟩⟩ | ⟨h4, h3⟩ := h
  · omega
  · unfold mapVs at h3
    cases hc : c.toList with
    | nil => rw [hc] at h3; simp at h3
    | cons x l => rw [hc] at h3; simp at h3
  · exact ⟨b, since, seen, c0, h2, h5, h1, h3⟩
  · unfold boxVs at h3
    cases hc : c.toList with
    | nil => rw [hc] at h3; simp at h3
    | cons x l => rw [hc] at h3; simp at h3
  · simp at h3
theorem Held.boxAt {L : Lay} {w : World} {g : Nat} {vs : List Value} (h : Held L w g vs) (hk : L.lk g = none) (hg : 3000000000 ≤ g) (hp : g < 5000000000 ∨ ∀ a, vs ≠ [.pointer a]) : ∃ es n, w.heap[L.blk g]? = some (.map es n) ∧ bornOk es n ∧ boxOk L w g es ∧ L.own (L.blk g) = some g ∧ vs = boxVs w es := by
  unfold Held at h
  rw [hk] at h
  obtain ⟨h1, ⟨h4, _⟩ | ⟨⟨_, h4⟩, _⟩ | ⟨_, c, t, h2, h5, h6, h3⟩⟩ | ⟨h5, h3⟩ := h
  · omega
  · omega
  · exact ⟨c, t, h2, h5, h6, h1, h3⟩
  · rcases hp with hp | hp
    · omega
    · exact absurd h3 (hp _)
theorem boxOk.congr {L L' : Lay} {w w' : World} {g : Nat} {es : Array MapEntry} (h : boxOk L w g es) (hh : ∀ b, b < w.heap.size → L.own b = some g → w'.heap[b]? = w.heap[b]? ∧ L'.own b = L.own b) : boxOk L' w' g es ∧ boxVs w' es = boxVs w es := by
  refine ⟨⟨fun x hx => ?_, h.2⟩, ?_⟩
  · obtain ⟨b, c, t, h1, h2, h3⟩ := h.1 x hx
    have := hh b (lt_of_heap h2) h3
    exact ⟨b, c, t, h1, this.1.trans h2, this.2.trans h3⟩
  · unfold boxVs
    apply List.map_congr_left
    intro x hx
    obtain ⟨b, c, t, h1, h2, h3⟩ := h.1 x hx
    have := hh b (lt_of_heap h2) h3
    rw [h1]
    simp only [boxC, this.1]
theorem Held.congr {L L' : Lay} {w w' : World} {g : Nat} {vs : List Value} (h : Held L w g vs) (hl : L'.lk g = L.lk g) (hb : L.lk g = none → L'.blk g = L.blk g) (hh : ∀ b, b < w.heap.size → (L.own b = some g ∨ L.own b = some 0) → w'.heap[b]? = w.heap[b]? ∧ L'.own b = L.own b) : Held L' w' g vs := by
  unfold Held at h ⊢
  rw [hl]
  split at h
  · rename_i hk
    unfold HeldB at h ⊢
    obtain ⟨h1, ⟨h0, c, t, h2, h3⟩ | ⟨h0, ⟨c, t, h2, h5, h3⟩ | ⟨m, si, se, c0, h2, h5, h3⟩⟩ | ⟨h0, c, t, h2, h5, h6, h3⟩⟩ | hG := h
    rotate_left 4
    · exact .inr hG
    all_goals
      have := hh _ (lt_of_heap h2) (.inl h1)
      rw [hb hk]
    · exact .inl ⟨this.2.trans h1, .inl ⟨h0, c, t, this.1.trans h2, h3⟩⟩
    · exact .inl ⟨this.2.trans h1, .inr (.inl ⟨h0, .inl ⟨c, t, this.1.trans h2, h5, h3⟩⟩)⟩
    · exact .inl ⟨this.2.trans h1, .inr (.inl ⟨h0, .inr ⟨m, si, se, c0, this.1.trans h2, h5, h3⟩⟩)⟩
    · obtain ⟨q1, q2⟩ := h6.congr fun b hb ho => hh b hb (.inl ho)
      exact .inl ⟨this.2.trans h1, .inr (.inr ⟨h0, c, t, this.1.trans h2, h5, q1, h3.trans q2.symm⟩)⟩
  · rename_i r hk
    obtain ⟨h1, z, h2, h3⟩ := h
    have := hh _ (lt_of_heap h2) (.inr h1)
    exact ⟨this.2.trans h1, z, this.1.trans h2, h3⟩

theorem ObjRep.same {k g : Nat} {L L' : Lay} {w w' : World} {cells : List AV} (h : Same k L w L' w') (hg : g ≠ k) (hk0 : k ≠ 0) (hm : AV.mens k cells = false) (hr : ObjRep L w g cells) : ObjRep L' w' g cells := by
  refine ⟨fun h0 => by rw [h.hid]; exact AReps.same h cells _ hm (hr.1 h0), fun h0 => ?_⟩
  obtain ⟨vs, e1, e3⟩ := hr.2 h0
  exact ⟨vs, e1.congr (h.lk g hg) (fun _ => h.blk g hg) (fun b hb ho => h.heap b hb (by rcases ho with ho | ho <;> rw [ho] <;> simp <;> first | exact hg | exact hk0.symm)), AReps.same h cells _ hm e3⟩

theorem flat_get {s : Nat} : ∀ {rows : List (List D)}, (∀ r ∈ rows, r.length = s) → ∀ (i k : Nat) (r : List D), rows[i]? = some r → k < s → rows.flatten[i * s + k]? = r[k]?
  | [], _, i, k, r, h, _ => by simp at h
  | x :: xs, hl, 0, k, r, h, hk => by
    simp at h; subst h
    rw [List.flatten_cons, Nat.zero_mul, Nat.zero_add, List.getElem?_append_left (by rw [hl x (by simp)]; exact hk)]
  | x :: xs, hl, i + 1, k, r, h, hk => by
    have hx := hl x (by simp)
    rw [List.flatten_cons, List.getElem?_append_right (by rw [hx, Nat.add_mul, Nat.one_mul]; omega)]
    have := flat_get (rows := xs) (fun r hr => hl r (List.mem_cons_of_mem _ hr)) i k r (by simpa using h) hk
    rw [hx, show (i + 1) * s + k - s = i * s + k by rw [Nat.add_mul, Nat.one_mul]; omega]
    exact this

def likeObj (o o' : Obj) : Prop := match o with | .loop _ => ∃ r, o' = .loop r | _ => o' = o
theorem likeObj.refl (o : Obj) : likeObj o o := by unfold likeObj; split <;> first | exact ⟨_, rfl⟩ | rfl
structure Rel (W0 : World) (L0 : Lay) (L : Lay) (env : List AV) (S : Sto) (w : World) (a : Act) : Prop where
  slots : AReps L w env a.tmps.toList
  hid : ∃ vs, L.hid = vs ++ L0.hid ∧ strip a.defers = vs.map undv
  mks : (marks a.defers).Nodup ∧ ∀ r ∈ marks a.defers, w.heap[r]? = some (.deferred (some [])) ∧ L.own r = some 0
  mkb : ∀ r ∈ marks a.defers, W0.heap.size ≤ r ∧ ∀ o, (r, o) ∉ L0.kp
  kept : ∀ b o, (b, o) ∈ L0.kp → (∃ o', w.heap[b]? = some o' ∧ likeObj o o') ∧ L.own b = some 0
  rdk : ∀ l, L0.rd = some l → ∃ r, (l, Obj.loop r) ∈ L0.kp
  lke : L.lk = L0.lk
  lkb : ∀ g r, L0.lk g = some r → (1000000000 ≤ g ∧ g < 2000000000) ∧ W0.heap.size ≤ r.l ∧ r.l < w.heap.size
  lki : ∀ g g' r r', L0.lk g = some r → L0.lk g' = some r' → r.l = r'.l → g = g'
  rd : L0.rd = none ∨ L0.hid ≠ []
  objs : ∀ g cells, S.get g = some cells → ObjRep L w g cells
  old : ∀ b, b < W0.heap.size → (L0.own b = none ∨ L0.own b = some 0) → L.own b = L0.own b ∧ w.heap[b]? = W0.heap[b]?
  size : W0.heap.size ≤ w.heap.size
  own_lt : ∀ b g, L.own b = some g → b < w.heap.size
  os : w.os = W0.os
  tape : w.tape = W0.tape
  output : w.output = W0.output

theorem Rel.lk2 {W0 : World} {L0 L : Lay} {env : List AV} {S : Sto} {w : World} {a : Act} (hr : Rel W0 L0 L env S w a) : ∀ g r, L.lk g = some r → g < 2000000000 := fun g r h => (hr.lkb g r (by rw [← hr.lke, h])).1.2
theorem Rel.kept_same {W0 : World} {L0 L L' : Lay} {env : List AV} {S : Sto} {w w' : World} {a : Act} {k : Nat} (hr : Rel W0 L0 L env S w a) (hk : k ≠ 0) (h : Same k L w L' w') : ∀ b o, (b, o) ∈ L0.kp → (∃ o', w'.heap[b]? = some o' ∧ likeObj o o') ∧ L'.own b = some 0 := fun b o hb => by
  obtain ⟨⟨o', h1, h3⟩, h2⟩ := hr.kept b o hb
  have := h.heap b (lt_of_heap h1) (by rw [h2]; simpa using hk.symm)
  exact ⟨⟨o', this.1.trans h1, h3⟩, this.2.trans h2⟩
theorem Rel.mks_same {W0 : World} {L0 L L' : Lay} {env : List AV} {S : Sto} {w w' : World} {a : Act} {k : Nat} (hr : Rel W0 L0 L env S w a) (hk : k ≠ 0) (h : Same k L w L' w') : (marks a.defers).Nodup ∧ ∀ r ∈ marks a.defers, w'.heap[r]? = some (.deferred (some [])) ∧ L'.own r = some 0 :=
  ⟨hr.mks.1, fun r hr' => by
    obtain ⟨h1, h2⟩ := hr.mks.2 r hr'
    have := h.heap r (lt_of_heap h1) (by rw [h2]; simpa using hk.symm)
    exact ⟨this.1.trans h1, this.2.trans h2⟩⟩

theorem Sto.mens_get {k g : Nat} {cells : List AV} : ∀ {S : Sto}, S.mens k = false → S.get g = some cells → AV.mens k cells = false
  | [], _, h => by simp [Sto.get] at h
  | (g', c) :: r, hm, h => by
    simp only [Sto.mens, Bool.or_eq_false_iff] at hm
    simp only [Sto.get] at h
    split at h
    · simp at h; subst h; exact hm.1
    · exact Sto.mens_get hm.2 h

theorem Rel.step {W0 : World} {L0 L L' : Lay} {env : List AV} {S : Sto} {w w' : World} {a : Act} {k : Nat} (hr : Rel W0 L0 L env S w a) (hk : k ≠ 0) (h : Same k L w L' w')
    (hm : AV.mens k env = false) (hs : S.mens k = false) (hg : S.get k = none)
    (hk0 : ∀ b, b < W0.heap.size → L.own b = some k → ¬ (L0.own b = none ∨ L0.own b = some 0))
    (hsz : w.heap.size ≤ w'.heap.size) (hnew : ∀ b g, L'.own b = some g → b < w'.heap.size) (ho : w'.os = w.os) (ht : w'.tape = w.tape) (hout : w'.output = w.output)  (hlk : L'.lk = L.lk := by rfl) :
    Rel W0 L0 L' env S w' a where
  slots := AReps.same h _ _ hm hr.slots
  hid := by rw [h.hid]; exact hr.hid
  rd := hr.rd
  mkb := hr.mkb
  rdk := hr.rdk
  lke := hlk.trans hr.lke
  lkb := fun g r h => ⟨(hr.lkb g r h).1, (hr.lkb g r h).2.1, Nat.lt_of_lt_of_le (hr.lkb g r h).2.2 hsz⟩
  lki := hr.lki
  kept := fun b o hb => by
    obtain ⟨⟨o', h1, h3⟩, h2⟩ := hr.kept b o hb
    have := h.heap b (lt_of_heap h1) (by rw [h2]; simpa using hk.symm)
    exact ⟨⟨o', this.1.trans h1, h3⟩, this.2.trans h2⟩
  mks := ⟨hr.mks.1, fun r hr' => by
    obtain ⟨h1, h2⟩ := hr.mks.2 r hr'
    have := h.heap r (lt_of_heap h1) (by rw [h2]; simpa using hk.symm)
    exact ⟨this.1.trans h1, this.2.trans h2⟩⟩
  objs := fun g cells hc => ObjRep.same h (fun e => by subst e; rw [hg] at hc; cases hc) hk (Sto.mens_get hs hc) (hr.objs g cells hc)
  old := fun b hb hb0 => by
    have h1 := hr.old b hb hb0
    have h2 := h.heap b (Nat.lt_of_lt_of_le hb hr.size) (fun e => hk0 b hb e hb0)
    exact ⟨h2.2.trans h1.1, h2.1.trans h1.2⟩
  size := Nat.le_trans hr.size hsz
  own_lt := hnew
  os := ho.trans hr.os
  tape := ht.trans hr.tape
  output := hout.trans hr.output

theorem Rel.not_old {W0 : World} {L0 L : Lay} {env : List AV} {S : Sto} {w : World} {a : Act} (hr : Rel W0 L0 L env S w a) {k : Nat} (hk : k ≠ 0) :
    ∀ b, b < W0.heap.size → L.own b = some k → ¬ (L0.own b = none ∨ L0.own b = some 0) := fun b hb hk' h => by
  have := (hr.old b hb h).1
  rw [hk'] at this
  rcases h with h | h
  · rw [h] at this; cases this
  · rw [h] at this; simp at this; exact hk this

theorem Rel.set {W0 : World} {L0 L : Lay} {env : List AV} {S : Sto} {w : World} {a : Act} (hr : Rel W0 L0 L env S w a) (dst : Option Nat) {x : AV} {u : Value} (h : ARep L w x u) :
    Rel W0 L0 L (match dst with | some i => env.set i x | none => env) S w (a.put dst u) := by
  cases dst with
  | none => exact hr
  | some i =>
    refine { hr with slots := ?_, hid := hr.hid, mks := hr.mks, mkb := hr.mkb }
    simpa [Act.put] using hr.slots.set i h

end Go.E

namespace Go.E
open Go

def gif {α : Sort _} (g : Bool) (x y : α) : α := if g = true then x else y
theorem gif_eq {α : Sort _} (g : Bool) (x y : α) : gif g x y = if g = true then x else y := by unfold gif; exact id rfl
theorem gif_true {α : Sort _} (x y : α) : gif true x y = x := by unfold gif; exact if_pos rfl
theorem gif_false {α : Sort _} (x y : α) : gif false x y = y := by unfold gif; exact if_neg (by decide)
def ltB (a b : Int) : Bool := decide (a < b)
def leB (a b : Int) : Bool := decide (a ≤ b)
theorem ltB_eq (a b : Int) : ltB a b = decide (a < b) := by unfold ltB; exact id rfl
theorem leB_eq (a b : Int) : leB a b = decide (a ≤ b) := by unfold leB; exact id rfl

def AV.int : AV → Int | .d (.v (.int _ n)) => n | _ => 0
def AV.kind : AV → IntKind | .d (.v (.int k _)) => k | _ => .i64
def AV.bool : AV → Bool | .d (.v (.bool b)) => b | _ => false
def AV.str : AV → ByteArray | .d (.v (.string s)) => s | _ => ByteArray.empty
def AV.isInt : AV → Prop | .d (.v (.int _ _)) => True | _ => False
def AV.isBool : AV → Prop | .d (.v (.bool _)) => True | _ => False
def AV.isStr : AV → Prop | .d (.v (.string _)) => True | _ => False

abbrev AV.i (n : Int) : AV := .d (.v (.int .i64 n))
abbrev AV.b (b : Bool) : AV := .d (.v (.bool b))
abbrev D.i (n : Int) : D := .v (.int .i64 n)
abbrev D.b (b : Bool) : D := .v (.bool b)
def AV.no : AV := .d (.v undef)

theorem AV.isInt_rep {L : Lay} {w : World} {x : AV} {u : Value} (h : x.isInt) (k : ARep L w x u) : u = .int x.kind x.int := by
  cases x with
  | d y => cases y with
    | v z => cases z <;> first | exact k | exact h.elim
    | _ => exact h.elim
  | _ => exact h.elim
theorem AV.isBool_rep {L : Lay} {w : World} {x : AV} {u : Value} (h : x.isBool) (k : ARep L w x u) : u = .bool x.bool := by
  cases x with
  | d y => cases y with
    | v z => cases z <;> first | exact k | exact h.elim
    | _ => exact h.elim
  | _ => exact h.elim
theorem AV.isStr_rep {L : Lay} {w : World} {x : AV} {u : Value} (h : x.isStr) (k : ARep L w x u) : u = .string x.str := by
  cases x with
  | d y => cases y with
    | v z => cases z <;> first | exact k | exact h.elim
    | _ => exact h.elim
  | _ => exact h.elim

def cst : Value → AV
  | .agg cs => .d (.agg (cs.toList.map .v))
  | v => .d (.v v)

theorem cst_rep {L : Lay} {w : World} (v : Value) : ARep L w (cst v) v := by
  have h : ∀ l : List Value, DReps (L.mem w) (l.map .v) l := by
    intro l; induction l with
    | nil => rfl
    | cons x l ih => exact ⟨x, l, rfl, rfl, ih⟩
  cases v <;> first | exact rfl | exact ⟨_, rfl, h _⟩

def aval (env : List AV) : Operand → AV
  | .tmp t => env.getD t .any
  | .const v => cst v
  | .global g => .d (.v (.pointer (some ⟨g, 0, none⟩)))
  | .func f => .d (.v (.func (.func f) #[] #[]))

theorem aval_rep {L : Lay} {w : World} {env : List AV} {a : Act} (h : AReps L w env a.tmps.toList) (x : Operand) : ARep L w (aval env x) (a.eval x) := by
  cases x with
  | tmp t =>
    simp only [aval, Act.eval]
    cases ht : env[t]? with
    | none => simp [List.getD, ht]; trivial
    | some y =>
      obtain ⟨u, hu, hr⟩ := h.get t y ht
      have : a.tmps.getD t undef = u := by
        have h' : a.tmps[t]? = some u := by simpa using hu
        simp [Array.getD_eq_getD_getElem?, h']
      rw [this]; simp [List.getD, ht]; exact hr
  | const v => exact cst_rep v
  | global g => exact rfl
  | func f => exact rfl

def fo (P : Program) (s f : Nat) : Option Nat :=
  match P.underlying s with
  | some (.struct fs) => (match fs[f]? with
    | some fd => (match P.info? fd.type with | some i => if i.size = 0 then none else some fd.offset | none => none)
    | none => none)
  | _ => none
def lt (P : Program) (t : Nat) : Option (Bool × Nat) :=
  match P.underlying t, P.info? t with
  | some (.struct _), some i => some (true, i.size)
  | some (.array _ _), some i => some (true, i.size)
  | some _, some _ => some (false, 1)
  | _, _ => none
def ixs (P : Program) (t : Nat) : Option Nat :=
  match P.underlying t with
  | some (.slice e) => (P.info? e).map (·.size)
  | _ => none
def ixa (P : Program) (t : Nat) : Option (Nat × Nat) :=
  match P.underlying t with
  | some (.array n e) => (P.info? e).map fun i => (n, i.size)
  | _ => none
def fty (P : Program) (s f : Nat) : Option (Nat × Bool × Nat) :=
  match P.underlying s with
  | some (.struct fs) => (match fs[f]? with | some fd => (lt P fd.type).map fun x => (fd.offset, x.1, x.2) | none => none)
  | _ => none
def ixe (P : Program) (t : Nat) : Option (Nat × Bool × Nat) :=
  match P.underlying t with
  | some (.array n e) => (match lt P e, P.info? e with | some x, some i => if i.size = x.2 then some (n, x.1, x.2) else none | _, _ => none)
  | _ => none
def isStringTy (P : Program) (t : Nat) : Bool := match P.underlying t with | some .string => true | _ => false
def isSliceTy (P : Program) (t : Nat) : Bool := match P.underlying t with | some (.slice _) => true | _ => false
def intTy (P : Program) (t : Nat) : Option IntKind := match P.underlying t with | some (.int k) => some k | _ => none
def isBoolTy (P : Program) (t : Nat) : Bool := match P.underlying t with | some .bool => true | _ => false
def notIface (P : Program) (t : Nat) : Bool := match P.underlying t with | some (.interface _) => false | some _ => true | none => false

def D.part (cs : List D) (off : Nat) (agg : Bool) (n : Nat) : D := if agg then .agg ((cs.drop off).take n) else cs.getD off (.v undef)
def AV.dl : List AV → Option (List D)
  | [] => some []
  | .d x :: r => (AV.dl r).map (x :: ·)
  | _ :: _ => none
def AV.mkAgg (xs : List AV) : AV := match AV.dl xs with | some ds => .d (.agg ds) | none => .agg xs
def AV.mkTup (xs : List AV) : AV := match AV.dl xs with | some ds => .d (.tup ds) | none => .tup xs
def AV.part (cs : List AV) (off : Nat) (agg : Bool) (n : Nat) : AV := if agg then AV.mkAgg ((cs.drop off).take n) else cs.getD off .any

theorem AV.dl_rep {L : Lay} {w : World} : ∀ {xs : List AV} {ds : List D} {us : List Value}, AV.dl xs = some ds → AReps L w xs us → DReps (L.mem w) ds us
  | [], ds, us, h, k => by simp [AV.dl] at h; subst h; exact k
  | .d x :: r, ds, us, h, ⟨u, ut, e, k1, k2⟩ => by
    simp only [AV.dl, Option.map_eq_some_iff] at h
    obtain ⟨ds', h1, rfl⟩ := h
    exact ⟨u, ut, e, k1, AV.dl_rep h1 k2⟩
  | .any :: _, _, _, h, _ | .own .. :: _, _, _, h, _ | .eref .. :: _, _, _, h, _ | .ref .. :: _, _, _, h, _ | .tup _ :: _, _, _, h, _
  | .agg _ :: _, _, _, h, _ | .clo .. :: _, _, _, h, _ | .iface .. :: _, _, _, h, _ => by simp [AV.dl] at h

theorem AV.mkAgg_rep {L : Lay} {w : World} {xs : List AV} {us : Array Value} (h : AReps L w xs us.toList) : ARep L w (AV.mkAgg xs) (.agg us) := by
  unfold AV.mkAgg; split
  · rename_i ds hd; exact ⟨us, rfl, AV.dl_rep hd h⟩
  · exact ⟨us, rfl, h⟩
theorem AV.mkTup_rep {L : Lay} {w : World} {xs : List AV} {us : Array Value} (h : AReps L w xs us.toList) : ARep L w (AV.mkTup xs) (.tuple us) := by
  unfold AV.mkTup; split
  · rename_i ds hd; exact ⟨us, rfl, AV.dl_rep hd h⟩
  · exact ⟨us, rfl, h⟩

theorem DReps.drop {m : Mem} : ∀ {ds : List D} {us : List Value} (n : Nat), DReps m ds us → DReps m (ds.drop n) (us.drop n)
  | ds, us, 0, h => by simpa using h
  | [], us, n + 1, h => by rw [show us = [] from h]; simp; rfl
  | d :: ds, us, n + 1, ⟨u, ut, e, _, k⟩ => by rw [e]; simpa using DReps.drop n k
theorem DReps.take {m : Mem} : ∀ {ds : List D} {us : List Value} (n : Nat), DReps m ds us → DReps m (ds.take n) (us.take n)
  | ds, us, 0, _ => by simp; rfl
  | [], us, n + 1, h => by rw [show us = [] from h]; simp; rfl
  | d :: ds, us, n + 1, ⟨u, ut, e, k1, k⟩ => by rw [e]; exact ⟨u, ut.take n, rfl, k1, DReps.take n k⟩
theorem AReps.drop {L : Lay} {w : World} : ∀ {ds : List AV} {us : List Value} (n : Nat), AReps L w ds us → AReps L w (ds.drop n) (us.drop n)
  | ds, us, 0, h => by simpa using h
  | [], us, n + 1, h => by rw [show us = [] from h]; simp; rfl
  | d :: ds, us, n + 1, ⟨u, ut, e, _, k⟩ => by rw [e]; simpa using AReps.drop n k
theorem AReps.take {L : Lay} {w : World} : ∀ {ds : List AV} {us : List Value} (n : Nat), AReps L w ds us → AReps L w (ds.take n) (us.take n)
  | ds, us, 0, _ => by simp; rfl
  | [], us, n + 1, h => by rw [show us = [] from h]; simp; rfl
  | d :: ds, us, n + 1, ⟨u, ut, e, k1, k⟩ => by rw [e]; exact ⟨u, ut.take n, rfl, k1, AReps.take n k⟩

def Keep (X : List Nat) (L : Lay) (w w' : World) : Prop := ∀ b, b < w.heap.size → (∀ g ∈ X, L.own b ≠ some g) → w'.heap[b]? = w.heap[b]?
theorem Keep.refl (X : List Nat) (L : Lay) (w : World) : Keep X L w w := fun _ _ _ => rfl

theorem Keep.mem {X : List Nat} {L : Lay} {w w' : World} (h : Keep X L w w') {b o : Nat} {u : Value} (hu : L.mem w b o = some u) : w'.cell? ⟨b, o, none⟩ = some u := by
  obtain ⟨h1, h2⟩ := look_some.1 hu
  have hb := World.block_lt_of_cell? w ⟨b, o, none⟩ h2
  rw [World.cell?_of_block (w := w) (h b hb (fun g _ => by rw [h1]; simp))]
  exact h2

def reads : Op → Bool | .load _ _ => true | _ => false
def Yv (P : Program) (X : List Nat) (L : Lay) (w : World) (ρ : Operand → Value) (o : Oper) (x : AV) : Prop :=
  ∃ v, ARep L w x v ∧ ∀ w', (reads o.op = true → Keep X L w w') → (execOp ρ o).run P w' = .ok (.value v) w'

theorem Yv.of_all {P : Program} {X : List Nat} {L : Lay} {w : World} {ρ : Operand → Value} {o : Oper} {x : AV} {v : Value} (h : ARep L w x v) (k : ∀ w', (execOp ρ o).run P w' = .ok (.value v) w') : Yv P X L w ρ o x :=
  ⟨v, h, fun w' _ => k w'⟩

end Go.E

namespace Go.E
open Go

section
variable {P : Program} {X : List Nat} {L : Lay} {w : World} {ρ : Operand → Value} {A : Operand → AV}

theorem yv_move {dst type pos after guard} (x : Operand) (h : ARep L w (A x) (ρ x)) : Yv P X L w ρ ⟨dst, .move x, type, pos, after, guard⟩ (A x) := .of_all h fun _ => rfl
theorem yv_assign {dst type pos after guard} (x : Operand) (h : ARep L w (A x) (ρ x)) : Yv P X L w ρ ⟨dst, .assign x, type, pos, after, guard⟩ (A x) := .of_all h fun _ => rfl

theorem yv_pick {dst type pos after guard} (c x y : Operand) (hc : ARep L w (A c) (ρ c)) (hb : (A c).isBool) (hx : ARep L w (A x) (ρ x)) (hy : ARep L w (A y) (ρ y)) :
    Yv P X L w ρ ⟨dst, .pick c x y, type, pos, after, guard⟩ (gif (A c).bool (A x) (A y)) := by
  have e := AV.isBool_rep hb hc
  refine .of_all (v := if (A c).bool = true then ρ x else ρ y) (by rw [gif_eq]; split <;> assumption) fun w' => ?_
  simp only [execOp, e, asBool, Sem.run_bind, Sem.run_pure, Result.andThen_ok]

def binI (op : BinOp) (x y : AV) : AV :=
  match op with
  | .add => .d (.v (.int x.kind (x.kind.wrap (x.int + y.int))))
  | .sub => .d (.v (.int x.kind (x.kind.wrap (x.int - y.int))))
  | .mul => .d (.v (.int x.kind (x.kind.wrap (x.int * y.int))))
  | .quo => .d (.v (.int x.kind (x.kind.wrap (x.int.tdiv y.int))))
  | .rem => .d (.v (.int x.kind (x.int.tmod y.int)))
  | .and => .d (.v (.int x.kind (x.kind.wrap (BitVec.ofInt x.kind.bits x.int &&& BitVec.ofInt x.kind.bits y.int).toNat)))
  | .or => .d (.v (.int x.kind (x.kind.wrap (BitVec.ofInt x.kind.bits x.int ||| BitVec.ofInt x.kind.bits y.int).toNat)))
  | .xor => .d (.v (.int x.kind (x.kind.wrap (BitVec.ofInt x.kind.bits x.int ^^^ BitVec.ofInt x.kind.bits y.int).toNat)))
  | .andNot => .d (.v (.int x.kind (x.kind.wrap (BitVec.ofInt x.kind.bits x.int &&& ~~~ BitVec.ofInt x.kind.bits y.int).toNat)))
  | .shl => .d (.v (.int x.kind (x.kind.wrap (x.int * 2 ^ (min y.int.toNat x.kind.bits)))))
  | .shr => .d (.v (.int x.kind (x.int.fdiv (2 ^ (min y.int.toNat x.kind.bits)))))
  | .eql => .b (x.int == y.int)
  | .neq => .b (x.int != y.int)
  | .lss => .b (ltB x.int y.int)
  | .leq => .b (leB x.int y.int)
  | .gtr => .b (ltB y.int x.int)
  | .geq => .b (leB y.int x.int)
def binIs (op : BinOp) (x y : AV) : Prop :=
  match op with
  | .quo | .rem => x.kind = y.kind ∧ y.int ≠ 0
  | .shl | .shr => 0 ≤ y.int
  | _ => x.kind = y.kind

theorem eqGuard_int (op : BinOp) (t : Nat) (x y : Operand) (j k : IntKind) (m n : Int) (w' : World) : (eqGuard op t x y (.int j m) (.int k n)).run P w' = .ok () w' := by
  unfold eqGuard; split <;> rfl

theorem yv_binI {dst type pos after guard} (op : BinOp) (t t' : Nat) (x y : Operand) (hx : ARep L w (A x) (ρ x)) (hy : ARep L w (A y) (ρ y)) (ix : (A x).isInt) (iy : (A y).isInt) (hs : binIs op (A x) (A y)) :
    Yv P X L w ρ ⟨dst, .binOp op t x y t', type, pos, after, guard⟩ (binI op (A x) (A y)) := by
  have ex := AV.isInt_rep ix hx
  have ey := AV.isInt_rep iy hy
  generalize A x = p at *
  generalize A y = q at *
  refine .of_all (v := match binI op p q with | .d (.v v) => v | _ => undef) (by cases op <;> exact rfl) fun w' => ?_
  simp only [execOp, ex, ey, Sem.run_bind, eqGuard_int, Result.andThen_ok]
  cases op <;> simp only [binIs] at hs
  case shl => simp [binOp, Op.shift, binI, Int.not_lt.2 hs]
  case shr => simp [binOp, Op.shift, binI, Int.not_lt.2 hs]
  all_goals simp [binOp, hs, Op.intArith, Op.intDiv, Op.intBits, Op.intCmp, binI, ltB, leB]

def unV (op : UnOp) (x : AV) : AV :=
  match op with
  | .not => .b (!x.bool)
  | .neg => .d (.v (.int x.kind (x.kind.wrap (0 - x.int))))
  | .xor => .d (.v (.int x.kind (x.kind.wrap (BitVec.ofInt x.kind.bits (if x.kind.signed then -1 else x.kind.max) ^^^ BitVec.ofInt x.kind.bits x.int).toNat)))
  | .plus => .any
def unVs (op : UnOp) (x : AV) : Prop := match op with | .not => x.isBool | .neg | .xor => x.isInt | .plus => False

theorem yv_un {dst type pos after guard} (op : UnOp) (t : Nat) (x : Operand) (hx : ARep L w (A x) (ρ x)) (hs : unVs op (A x)) : Yv P X L w ρ ⟨dst, .unOp op t x, type, pos, after, guard⟩ (unV op (A x)) := by
  cases op <;> simp only [unVs] at hs
  · have ex := AV.isInt_rep hs hx
    exact .of_all rfl fun w' => by simp [execOp, ex, Op.unary, Op.intArith]
  · have ex := AV.isInt_rep hs hx
    exact .of_all rfl fun w' => by simp [execOp, ex, Op.unary, Op.intBits]
  · have ex := AV.isBool_rep hs hx
    exact .of_all rfl fun w' => by simp [execOp, ex, Op.unary]

theorem run_underlying' {t : Nat} {d : TypeDesc} (h : P.underlying t = some d) (w' : World) : (underlying t).run P w' = .ok d w' := run_underlying h w'
theorem run_typeInfo' {t : Nat} {i : TypeInfo} (h : P.info? t = some i) (w' : World) : (typeInfo t).run P w' = .ok i w' := by simp [typeInfo, h]
theorem run_sizeOf' {t : Nat} {i : TypeInfo} (h : P.info? t = some i) (w' : World) : (sizeOf t).run P w' = .ok i.size w' := by simp [sizeOf, run_typeInfo' h]

def cvI (P : Program) (dst : Nat) (x : AV) : AV := match intTy P dst with | some k => .d (.v (.int k (k.wrap x.int))) | none => .any
theorem yv_cvI {d type pos after guard} (src dst : Nat) (x : Operand) (hx : ARep L w (A x) (ρ x)) (ix : (A x).isInt) (h1 : (intTy P dst).isSome = true) (h2 : (P.underlying src).isSome = true) :
    Yv P X L w ρ ⟨d, .convert src dst x, type, pos, after, guard⟩ (cvI P dst (A x)) := by
  have ex := AV.isInt_rep ix hx
  obtain ⟨k, hk⟩ := Option.isSome_iff_exists.1 h1
  obtain ⟨s, hsrc⟩ := Option.isSome_iff_exists.1 h2
  have hd : P.underlying dst = some (.int k) := by
    unfold intTy at hk; split at hk <;> simp at hk
    rename_i heq; rw [heq, hk]
  refine .of_all (v := .int k (k.wrap (A x).int)) (by unfold cvI; rw [hk]; exact rfl) fun w' => ?_
  simp [execOp, convert, ex, run_underlying' hd, run_underlying' hsrc, Conv.intToInt]

def addF (x : AV) (o : Nat) : AV :=
  match x with
  | .d (.ptr cs off) => .d (.ptr cs (off + o))
  | .d (.v (.pointer (some ⟨b, off, none⟩))) => .d (.v (.pointer (some ⟨b, off + o, none⟩)))
  | .ref g off => .ref g (off + o)
  | .bx g i off => .bx g i (off + o)
  | .eref g e s rows i off => .eref g e s rows i (off + o)
  | _ => .any
def AV.isPtr : AV → Prop | .d (.ptr _ _) => True | .d (.v (.pointer (some ⟨_, _, none⟩))) => True | .ref _ _ => True | .bx _ _ _ => True | .eref _ _ _ _ _ _ => True | _ => False

theorem add_none (b o n : Nat) : (⟨b, o, none⟩ : Addr).add n = ⟨b, o + n, none⟩ := by
  unfold Addr.add; split <;> simp_all

theorem isPtr_rep {x : AV} {u : Value} (h : x.isPtr) (k : ARep L w x u) : ∃ b o, u = .pointer (some ⟨b, o, none⟩) ∧ ∀ n, ARep L w (addF x n) (.pointer (some ⟨b, o + n, none⟩)) := by
  cases x with
  | d y => cases y with
    | ptr cs off =>
      obtain ⟨b, o, e, hc⟩ := k
      exact ⟨b, o + off, e, fun n => ⟨b, o, by rw [Nat.add_assoc], hc⟩⟩
    | v z =>
      have k : u = z := k
      subst k
      unfold AV.isPtr at h
      split at h
      all_goals first | exact h.elim | skip
      all_goals rename_i hz
      all_goals cases hz
      exact ⟨_, _, rfl, fun n => rfl⟩
    | _ => exact h.elim
  | ref g off => exact ⟨_, _, k.1, fun n => ⟨rfl, k.2⟩⟩
  | bx g i off => obtain ⟨a, b, e1, e2, e3⟩ := k; exact ⟨_, _, e3, fun n => ⟨a, b, e1, e2, rfl⟩⟩
  | eref g e s rows i off =>
    obtain ⟨h1, h2, b, n, c, e1, e2⟩ := k
    exact ⟨_, _, e2, fun m => ⟨h1, h2, b, n, c, e1, by rw [Nat.add_assoc]⟩⟩
  | _ => exact h.elim

theorem fo_spec {s f o : Nat} (h : fo P s f = some o) : ∃ fs fd i, P.underlying s = some (.struct fs) ∧ fs[f]? = some fd ∧ P.info? fd.type = some i ∧ i.size ≠ 0 ∧ fd.offset = o := by
  unfold fo at h
  split at h
  · rename_i fs hu
    split at h
    · rename_i fd hf
      split at h
      · rename_i i hi
        split at h
        · cases h
        · rename_i hz; exact ⟨fs, fd, i, hu, hf, hi, hz, by simpa using h⟩
      · cases h
    · cases h
  · cases h

theorem yv_fieldAddr {dst type pos after guard} (s f o : Nat) (x : Operand) (hx : ARep L w (A x) (ρ x)) (hp : (A x).isPtr) (ho : fo P s f = some o) :
    Yv P X L w ρ ⟨dst, .fieldAddr s x f, type, pos, after, guard⟩ (addF (A x) o) := by
  obtain ⟨b, o', e, hr⟩ := isPtr_rep hp hx
  obtain ⟨fs, fd, i, h1, h2, h3, h4, h5⟩ := fo_spec ho
  refine .of_all (hr o) fun w' => ?_
  simp [execOp, Instr.fieldAt, run_underlying' h1, h2, e, Instr.sureAddr, fieldPlace, run_sizeOf' h3, h4, h5, add_none]

theorem yv_nilCheck {dst type pos after guard} (x : Operand) (hx : ARep L w (A x) (ρ x)) (hp : (A x).isPtr) : Yv P X L w ρ ⟨dst, .nilCheck x, type, pos, after, guard⟩ (A x) := by
  obtain ⟨b, o, e, _⟩ := isPtr_rep hp hx
  exact .of_all hx fun w' => by simp [execOp, e]

def AV.rows : AV → List (List D) | .d (.sl _ r) => r | .own _ _ _ r => r | _ => []
def AV.isSl (s : Nat) : AV → Prop | .d (.sl s' _) => s' = s | .own _ _ s' _ => s' = s | .d (.v (.slice none 0 0)) => True | _ => False
def AV.isSlice : AV → Prop | .d (.sl _ _) => True | .own _ _ _ _ => True | .d (.v (.slice none 0 0)) => True | _ => False

theorem isSlice_rep {x : AV} {u : Value} (h : x.isSlice) (k : ARep L w x u) : ∃ a c, u = .slice a x.rows.length c ∧ x.rows.length ≤ c := by
  cases x with
  | d y => cases y with
    | sl s r => obtain ⟨a, n, c, e, e2, e3, _⟩ := k; exact ⟨a, c, by rw [e, e2]; rfl, by rw [e2] at e3; exact e3⟩
    | v z =>
      have hz : z = .slice none 0 0 := by unfold AV.isSlice at h; split at h <;> simp_all
      subst hz; exact ⟨none, 0, k, Nat.le_refl _⟩
    | _ => exact h.elim
  | own g e s r =>
    obtain ⟨_, xs, hr, _⟩ := k
    rcases hr.2 with ⟨e1, e2⟩ | ⟨b, c, cur, e1, _, _, e3, _⟩
    · exact ⟨none, 0, by rw [e1, show (AV.own g e s r).rows = r from rfl, e2], by rw [show (AV.own g e s r).rows = r from rfl, e2]; exact Nat.le_refl _⟩
    · exact ⟨_, c, e1, e3⟩
  | _ => exact h.elim

def idxV (x : AV) (i : Int) : AV :=
  match x with
  | .d (.sl _ r) => .d (.ptr (r.getD i.toNat []) 0)
  | .own g e s r => .eref g e s r i.toNat 0
  | _ => .any

theorem ixs_spec {t s : Nat} (h : ixs P t = some s) : ∃ e i, P.underlying t = some (.slice e) ∧ P.info? e = some i ∧ i.size = s := by
  unfold ixs at h
  split at h
  · rename_i e hu
    cases hi : P.info? e with
    | none => simp [hi] at h
    | some i => simp [hi] at h; exact ⟨e, i, hu, hi, h⟩
  · cases h

theorem yv_idxS {dst type pos after guard} (t s : Nat) (x i : Operand) (hx : ARep L w (A x) (ρ x)) (hi : ARep L w (A i) (ρ i)) (hsl : (A x).isSl s) (ii : (A i).isInt) (ht : ixs P t = some s)
    (h0 : 0 ≤ (A i).int) (h1 : (A i).int < (A x).rows.length) : Yv P X L w ρ ⟨dst, .indexAddr t x i, type, pos, after, guard⟩ (idxV (A x) (A i).int) := by
  have ei := AV.isInt_rep ii hi
  obtain ⟨el, inf, hu, hinf, hsz⟩ := ixs_spec ht
  generalize A i = q at *
  generalize hn : q.int = n at *
  obtain ⟨k, rfl⟩ : ∃ k : Nat, n = k := ⟨n.toNat, by omega⟩
  have hk : k < (A x).rows.length := by omega
  generalize A x = p at *
  have run : ∀ (b o m c : Nat), ρ x = .slice (some ⟨b, o, none⟩) m c → k < m → ∀ w', (execOp ρ ⟨dst, .indexAddr t x i, type, pos, after, guard⟩).run P w' = .ok (.value (.pointer (some ⟨b, o + k * s, none⟩))) w' := by
    intro b o m c e hm w'
    simp [execOp, Instr.indexAt, asIntOf, ei, e, run_underlying' hu, hm, run_sizeOf' hinf, hsz, add_none]
  cases p with
  | d y => cases y with
    | sl s' r =>
      obtain rfl : s' = s := hsl
      obtain ⟨a, m, c, e, e2, e3, hr⟩ := hx
      change k < r.length at hk
      rcases hr with ⟨_, h2, _⟩ | ⟨b, o, rfl, hr⟩
      · omega
      · have hg : r[k]? = some (r.getD k []) := by rw [List.getD_eq_getElem?_getD, List.getElem?_eq_getElem hk]; rfl
        obtain ⟨_, hc⟩ := hr.get k _ hg
        refine ⟨_, ?_, fun w' _ => run b o m c e (by omega) w'⟩
        exact ⟨b, o + k * s', by simp, by simpa [idxV] using hc⟩
    | v z => unfold AV.isSl at hsl; split at hsl <;> simp_all [AV.rows]
    | _ => exact hsl.elim
  | own g e s' r =>
    obtain rfl : s' = s := hsl
    change k < r.length at hk
    obtain ⟨e0, hr⟩ := hx
    have hr' := hr
    obtain ⟨xs, hr, _⟩ := hr
    rcases hr.2 with ⟨_, e2⟩ | ⟨b, c, cur, e1, _⟩
    · omega
    · refine ⟨_, ?_, fun w' _ => run b 0 _ c e1 hk w'⟩
      refine ⟨by rw [← e0]; exact hr', by simpa using hk, b, _, c, by rw [← e0]; exact e1, by simp⟩
  | _ => exact hsl.elim

end
end Go.E

namespace Go.E
open Go

section
variable {P : Program} {X : List Nat} {L : Lay} {w : World} {ρ : Operand → Value} {A : Operand → AV} {S : Sto}

theorem lt_spec {t : Nat} {ag : Bool} {n : Nat} (h : lt P t = some (ag, n)) : ∃ d i, P.underlying t = some d ∧ P.info? t = some i ∧
    ((ag = true ∧ ((∃ fs, d = .struct fs) ∨ ∃ m e, d = .array m e) ∧ i.size = n) ∨ (ag = false ∧ n = 1 ∧ (∀ fs, d ≠ .struct fs) ∧ ∀ m e, d ≠ .array m e)) := by
  unfold lt at h
  split at h
  · rename_i h1 h2; simp at h; obtain ⟨rfl, rfl⟩ := h; exact ⟨_, _, h1, h2, .inl ⟨rfl, .inl ⟨_, rfl⟩, rfl⟩⟩
  · rename_i h1 h2; simp at h; obtain ⟨rfl, rfl⟩ := h; exact ⟨_, _, h1, h2, .inl ⟨rfl, .inr ⟨_, _, rfl⟩, rfl⟩⟩
  · rename_i d i h3 h4 h1 h2; simp at h; obtain ⟨rfl, rfl⟩ := h
    exact ⟨_, _, h1, h2, .inr ⟨rfl, rfl, fun fs e => h3 fs e, fun m e e' => h4 m e e'⟩⟩
  · cases h

theorem run_isAgg' {t : Nat} {ag : Bool} {n : Nat} (h : lt P t = some (ag, n)) (w' : World) : (isAgg t).run P w' = .ok ag w' := by
  obtain ⟨d, i, h1, h2, h3⟩ := lt_spec h
  rcases h3 with ⟨rfl, (⟨fs, rfl⟩ | ⟨m, e, rfl⟩), _⟩ | ⟨rfl, _, h4, h5⟩
  · simp [isAgg, run_underlying' h1]
  · simp [isAgg, run_underlying' h1]
  · simp only [isAgg, Sem.run_bind, run_underlying' h1, Result.andThen_ok]
    cases d <;> first | exact rfl | exact (h4 _ rfl).elim | exact (h5 _ _ rfl).elim

theorem run_loadVar' {t : Nat} {ag : Bool} {n : Nat} (h : lt P t = some (ag, n)) (w' : World) (b o : Nat) (us : List Value) (hn : us.length = n)
    (hc : ∀ j u, us[j]? = some u → w'.cell? ⟨b, o + j, none⟩ = some u) : (loadVar t ⟨b, o, none⟩).run P w' = .ok (if ag then .agg us.toArray else us.getD 0 undef) w' := by
  obtain ⟨d, i, h1, h2, h3⟩ := lt_spec h
  simp only [loadVar, Sem.run_bind, run_isAgg' h, Result.andThen_ok]
  rcases h3 with ⟨rfl, _, h4⟩ | ⟨rfl, h4, _⟩
  · simp only [if_true, Sem.run_bind, run_sizeOf' h2, Result.andThen_ok, h4]
    rw [← hn, run_loadCells_list (P := P) (w := w') ⟨b, o, none⟩ us (fun j v hj => by rw [add_none]; exact hc j v hj)]
    simp
  · obtain ⟨x, rfl⟩ : ∃ x, us = [x] := by
      match us, hn.trans h4 with
      | [x], _ => exact ⟨x, rfl⟩
    have := hc 0 x rfl
    simp only [Nat.add_zero] at this
    simp [this]

def bxAt (c : List AV) (gb i : Nat) : Option (D × List D) := match c[i]? with
  | some (.tup [.d kd, .bx gb' i' 0, .d (.agg cs)]) => if gb' = gb ∧ i' = i then some (kd, cs) else none
  | _ => none
def boxAt (S : Sto) (gb i : Nat) : Option (List D) := (S.get (gb - 1000000000)).bind fun c => (bxAt c gb i).map (·.2)
theorem bxAt_spec {c : List AV} {gb i : Nat} {z : D × List D} (h : bxAt c gb i = some z) : c[i]? = some (.tup [.d z.1, .bx gb i 0, .d (.agg z.2)]) := by
  unfold bxAt at h
  split at h
  · rename_i kd gb' i' cs' hi
    split at h
    · rename_i he
      obtain ⟨rfl, rfl⟩ := he
      cases h
      exact hi
    · cases h
  · cases h
theorem boxAt_spec {S : Sto} {gb i : Nat} {cs : List D} (h : boxAt S gb i = some cs) : ∃ c kd, S.get (gb - 1000000000) = some c ∧ c[i]? = some (.tup [.d kd, .bx gb i 0, .d (.agg cs)]) := by
  unfold boxAt at h
  obtain ⟨c, hc, h⟩ := Option.bind_eq_some_iff.1 h
  obtain ⟨z, hz, rfl⟩ := Option.map_eq_some_iff.1 h
  exact ⟨c, z.1, hc, bxAt_spec hz⟩
theorem box_rep {L : Lay} {w : World} {S : Sto} {gb i off : Nat} {cs : List D} {u : Value} (hS : ∀ g cells, S.get g = some cells → ObjRep L w g cells) (hlk : ∀ g r, L.lk g = some r → g < 2000000000) (h : boxAt S gb i = some cs) (hg : 4000000000 ≤ gb) (hx : ARep L w (.bx gb i off) u) :
    ∃ b C t, u = .pointer (some ⟨b, off, none⟩) ∧ w.heap[b]? = some (.cells C t (0, 0)) ∧ L.own b = some (gb - 1000000000) ∧ DReps (L.mem w) cs C.toList := by
  obtain ⟨c, kd, hc, hi⟩ := boxAt_spec h
  obtain ⟨a, b, e1, e2, e3⟩ := hx
  obtain ⟨vs, f1, f2⟩ := (hS _ _ hc).2 (by omega)
  have hk : L.lk (gb - 1000000000) = none := by
    cases hh : L.lk (gb - 1000000000) with
    | none => rfl
    | some r => have := hlk _ r hh; omega
  obtain ⟨es, n, j1, j2, j3, j4, rfl⟩ := f1.boxAt hk (by omega) (.inr <| by
    rintro a rfl
    obtain ⟨u, hu, us, rfl, _⟩ := f2.get i _ hi
    cases i <;> simp at hu)
  obtain ⟨v, hv, k1⟩ := f2.get i _ hi
  obtain ⟨us, rfl, u1, t1, g1, k2, u2, t2, rfl, k3, u3, t3, rfl, k4, g4⟩ := k1
  obtain rfl : t3 = [] := g4
  obtain ⟨a', b', q1, q2, rfl⟩ := k3
  rw [e1] at q1
  cases q1
  rw [e2] at q2
  simp only [Option.some.injEq, Value.int.injEq, true_and] at q2
  have q2 : b = b' := by omega
  subst q2
  obtain ⟨C', rfl, k4⟩ := k4
  unfold boxVs at hv
  rw [List.getElem?_map] at hv
  obtain ⟨x, hx1, hx2⟩ := Option.map_eq_some_iff.1 hv
  have hxm := List.mem_of_getElem? hx1
  obtain ⟨b2, C, t, p1, p2, p3⟩ := j3.1 x hxm
  simp only [Value.tuple.injEq] at hx2
  rw [← hx2] at g1
  simp only [List.cons.injEq] at g1
  obtain ⟨_, g2, g3, _⟩ := g1
  rw [p1] at g2
  cases g2
  rw [p1] at g3
  simp only [boxC, p2, Value.agg.injEq] at g3
  subst g3
  exact ⟨b, C, t, e3, p2, p3, k4⟩
def loadV (P : Program) (S : Sto) (t : Nat) (x : AV) : AV :=
  match lt P t with
  | some (ag, n) => (match x with
    | .d (.ptr cs off) => .d (D.part cs off ag n)
    | .d (.v (.pointer (some ⟨b, off, none⟩))) => (match S.get (5000000000 + b) with | some [.d (.ptr cs 0)] => .d (D.part cs off ag n) | _ => .any)
    | .ref g off => (match S.get g with | some cells => AV.part cells off ag n | none => .any)
    | .eref _ _ _ rows i off => .d (D.part (rows.getD i []) off ag n)
    | .bx gb i off => (match boxAt S gb i with | some cs => .d (D.part cs off ag n) | none => .any)
    | _ => .any)
  | none => .any
def loadS (P : Program) (S : Sto) (X : List Nat) (t : Nat) (x : AV) : Prop :=
  match lt P t with
  | some (_, n) => (match x with
    | .d (.ptr cs off) => off + n ≤ cs.length
    | .d (.v (.pointer (some ⟨b, off, none⟩))) => (match S.get (5000000000 + b) with | some [.d (.ptr cs 0)] => off + n ≤ cs.length | _ => False)
    | .ref g off => g ≠ 0 ∧ g ∉ X ∧ (match S.get g with | some cells => off + n ≤ cells.length | none => False)
    | .eref g _ s _ _ off => g ∉ X ∧ off + n ≤ s
    | .bx gb i off => 4000000000 ≤ gb ∧ gb - 1000000000 ∉ X ∧ (match boxAt S gb i with | some cs => off + n ≤ cs.length | none => False)
    | _ => False)
  | none => False

theorem part_rep {m : Mem} {cs : List D} {vs : List Value} {off n : Nat} {ag : Bool} (h : DReps m cs vs) (hn : off + n ≤ cs.length) (h1 : ag = false → n = 1) :
    DRep m (D.part cs off ag n) (if ag then .agg ((vs.drop off).take n).toArray else ((vs.drop off).take n).getD 0 undef) := by
  cases ag with
  | true => exact ⟨_, rfl, by simpa [D.part] using DReps.take n (DReps.drop off h)⟩
  | false =>
    have := h1 rfl; subst this
    have hl := h.length
    have hd : cs[off]? = some (cs.getD off (.v undef)) := by rw [List.getD_eq_getElem?_getD, List.getElem?_eq_getElem (by omega)]; rfl
    obtain ⟨u, hu, hr⟩ := h.get off _ hd
    have e : ((vs.drop off).take 1).getD 0 undef = u := by simp [List.getD_eq_getElem?_getD, hu]
    simp only [D.part, Bool.false_eq_true, if_false, e]; exact hr

theorem apart_rep {cs : List AV} {vs : List Value} {off n : Nat} {ag : Bool} (h : AReps L w cs vs) (hn : off + n ≤ cs.length) (h1 : ag = false → n = 1) :
    ARep L w (AV.part cs off ag n) (if ag then .agg ((vs.drop off).take n).toArray else ((vs.drop off).take n).getD 0 undef) := by
  cases ag with
  | true => exact AV.mkAgg_rep (by simpa using AReps.take n (AReps.drop off h))
  | false =>
    have := h1 rfl; subst this
    have hl := h.length
    have hd : cs[off]? = some (cs.getD off .any) := by rw [List.getD_eq_getElem?_getD, List.getElem?_eq_getElem (by omega)]; rfl
    obtain ⟨u, hu, hr⟩ := h.get off _ hd
    have e : ((vs.drop off).take 1).getD 0 undef = u := by simp [List.getD_eq_getElem?_getD, hu]
    simp only [AV.part, Bool.false_eq_true, if_false, e]; exact hr

theorem DCells.reps {m : Mem} {b : Nat} : ∀ {ds : List D} {o : Nat}, DCells m b o ds → ∃ us : List Value, DReps m ds us ∧ ∀ j u, us[j]? = some u → m b (o + j) = some u
  | [], _, _ => ⟨[], rfl, fun j u h => by simp at h⟩
  | d :: ds, o, ⟨⟨u, hu, _, k⟩, k2⟩ => by
    obtain ⟨us, h1, h2⟩ := DCells.reps k2
    refine ⟨u :: us, ⟨u, us, rfl, k, h1⟩, fun j x hj => ?_⟩
    cases j with
    | zero => simp at hj; subst hj; exact hu
    | succ j => rw [show o + (j + 1) = o + 1 + j by omega]; exact h2 j x (by simpa using hj)

theorem lt_one {t : Nat} {ag : Bool} {n : Nat} (h : lt P t = some (ag, n)) : ag = false → n = 1 := by
  obtain ⟨d, i, _, _, h3⟩ := lt_spec h
  rcases h3 with ⟨rfl, _⟩ | ⟨_, h4, _⟩
  · intro h; cases h
  · exact fun _ => h4

theorem cells_at {w' : World} {b : Nat} {cs : Array Value} {t : Nat} {fr : Nat × Nat} (h : w'.heap[b]? = some (.cells cs t fr)) (o : Nat) : w'.cell? ⟨b, o, none⟩ = cs[o]? := by
  simp [World.cell?, h]

theorem yv_load {dst type pos after guard} (t : Nat) (x : Operand) (hx : ARep L w (A x) (ρ x)) (hS : ∀ g cells, S.get g = some cells → ObjRep L w g cells) (hlk : ∀ g r, L.lk g = some r → g < 2000000000) (hs : loadS P S X t (A x)) :
    Yv P X L w ρ ⟨dst, .load t x, type, pos, after, guard⟩ (loadV P S t (A x)) := by
  unfold loadS at hs; unfold loadV
  split at hs
  case h_2 => exact hs.elim
  rename_i ag n hl
  have h1 := lt_one hl
  have fin : ∀ (b o : Nat) (vs : List Value) (off : Nat), ρ x = .pointer (some ⟨b, o + off, none⟩) → off + n ≤ vs.length → ∀ w', (∀ j u, vs[j]? = some u → w'.cell? ⟨b, o + j, none⟩ = some u) →
      (execOp ρ ⟨dst, .load t x, type, pos, after, guard⟩).run P w' = .ok (.value (if ag then .agg ((vs.drop off).take n).toArray else ((vs.drop off).take n).getD 0 undef)) w' := by
    intro b o vs off e hn w' hc
    have hv := run_loadVar' (P := P) hl w' b (o + off) ((vs.drop off).take n) (by simp; omega) (fun j u hj => by
      rw [Nat.add_assoc]
      refine hc (off + j) u ?_
      rw [List.getElem?_take] at hj
      split at hj
      · simpa using hj
      · cases hj)
    simp only [execOp, Instr.loadAt, e, Instr.sureAddr, Sem.run_bind, Sem.run_pure, Result.andThen_ok, hv]
  generalize A x = p at *
  cases p with
  | d y => cases y with
    | ptr cs off =>
      obtain ⟨b, o, e, hc⟩ := hx
      obtain ⟨us, hu, hm⟩ := DCells.reps hc
      refine ⟨_, part_rep hu hs h1, fun w' hk' => have hk := hk' rfl; fin b o us off e (by rw [hu.length]; exact hs) w' (fun j u hj => hk.mem (hm j u hj))⟩
    | v z =>
      have hx : ρ x = z := hx
      generalize hz : (AV.d (.v z)) = zz at hs ⊢
      split at hs
      all_goals first | (cases hz; done) | skip
      · rename_i b off
        cases hz
        split at hs
        case h_2 => exact hs.elim
        rename_i cs hg
        obtain ⟨vs0, e0, e3⟩ := (hS _ _ hg).2 (by omega)
        obtain ⟨u, ut, rfl, ⟨b', o', e4, hc⟩, e5⟩ := e3
        obtain rfl : ut = [] := e5
        have hk : L.lk (5000000000 + b) = none := by
          cases hh : L.lk (5000000000 + b) with
          | none => rfl
          | some r => have := hlk _ r hh; omega
        unfold Held at e0
        rw [hk] at e0
        rcases e0 with ⟨_, ⟨h4, _⟩ | ⟨⟨_, h4⟩, _⟩ | ⟨_, es, nn, _, _, _, h3⟩⟩ | ⟨_, h3⟩
        · omega
        · omega
        · unfold boxVs at h3
          cases hes : es.toList with
          | nil => rw [hes] at h3; simp at h3
          | cons y l => rw [hes] at h3; simp at h3; rw [e4] at h3; cases h3.1
        · rw [e4] at h3
          simp at h3
          obtain ⟨h3, h6⟩ := h3
          subst h6
          obtain ⟨us, hu, hm⟩ := DCells.reps hc
          refine ⟨_, part_rep hu hs h1, fun w' hk' => have hk := hk' rfl; fin b' 0 us off (by rw [hx, h3]; simp) (by rw [hu.length]; exact hs) w' (fun j u hj => hk.mem (hm j u hj))⟩
      all_goals exact hs.elim
    | _ => exact hs.elim
  | ref g off =>
    obtain ⟨hg0, hg, hs⟩ := hs
    split at hs
    case h_2 => exact hs.elim
    rename_i cells hcell
    simp only [hcell]
    obtain ⟨vs0, e0, e3⟩ := (hS g cells hcell).2 hg0
    obtain ⟨c, ty, e1, e2, rfl⟩ := e0.cells hx.2
    have hx := hx.1
    have hb := lt_of_heap e1
    refine ⟨_, apart_rep e3 hs h1, fun w' hk' => ?_⟩
    have hx' : ρ x = .pointer (some ⟨L.blk g, 0 + off, none⟩) := by rw [Nat.zero_add]; exact hx
    refine fin (L.blk g) 0 c.toList off hx' (by rw [e3.length]; exact hs) w' (fun j u hj => ?_)
    have := hk' rfl (L.blk g) hb (fun g' hg' e => by rw [e2] at e; simp at e; subst e; exact hg hg')
    rw [Nat.zero_add, cells_at (this.trans e1)]; simpa using hj
  | eref g e s rows i off =>
    obtain ⟨hg, hs⟩ := hs
    obtain ⟨⟨xs, hr, f2, f3, _, f4⟩, hi, b, n', c', e1, e2⟩ := hx
    rcases hr.2 with ⟨hr, _⟩ | ⟨b', c, cur, f1, _, f5, f6, f7, f8, f9⟩
    · rw [hr] at e1; simp at e1
    · rw [f1] at e1; simp at e1
      obtain ⟨rfl, _, _⟩ := e1
      have f2 := f2 b' (by rw [f1]; rfl)
      have hgi : rows[i]? = some (rows.getD i []) := by rw [List.getD_eq_getElem?_getD, List.getElem?_eq_getElem hi]; rfl
      have hlen := f3 _ (List.mem_of_getElem? hgi)
      have hflat := fun k hk => flat_get f3 i k _ hgi hk
      have hxl := f4.length
      have hin : i * s + s ≤ xs.length := by
        rw [hr.1]
        have := Nat.mul_le_mul_right s (show i + 1 ≤ rows.length from hi)
        rw [Nat.add_mul, Nat.one_mul] at this
        exact this
      have hu : DReps (L.mem w) (rows.getD i []) ((xs.drop (i * s)).take s) := DReps.of_get (by rw [List.length_take, List.length_drop, hlen]; omega) fun j d u h1 h2 => by
        have hj : j < s := by rw [← hlen]; exact (List.getElem?_eq_some_iff.1 h1).1
        obtain ⟨x, hx, hd⟩ := f4.get (i * s + j) d (by rw [hflat j hj]; exact h1)
        rw [List.getElem?_take, if_pos hj, List.getElem?_drop, hx] at h2
        simp at h2; subst h2; exact hd
      have hb := lt_of_heap f5
      refine ⟨_, part_rep hu (by rw [hlen]; exact hs) h1, fun w' hk' => ?_⟩
      refine fin b' (i * s) _ off e2 (by rw [hu.length, hlen]; exact hs) w' (fun j u hj => ?_)
      have := hk' rfl b' hb (fun g' hg' e => by rw [f2] at e; simp at e; subst e; exact hg hg')
      rw [cells_at (this.trans f5)]
      rw [List.getElem?_take] at hj
      split at hj
      · rw [List.getElem?_drop, ← f9, List.getElem?_take] at hj
        split at hj
        · simpa using hj
        · cases hj
      · cases hj
  | bx gb i off =>
    obtain ⟨hg, hgX, hs⟩ := hs
    split at hs
    case h_2 => exact hs.elim
    rename_i cs hcs
    simp only [hcs]
    obtain ⟨b, C, ty, e1, e2, e3, e4⟩ := box_rep hS hlk hcs hg hx
    have hb := lt_of_heap e2
    refine ⟨_, part_rep e4 hs h1, fun w' hk' => ?_⟩
    have hx' : ρ x = .pointer (some ⟨b, 0 + off, none⟩) := by rw [Nat.zero_add]; exact e1
    refine fin b 0 C.toList off hx' (by rw [e4.length]; exact hs) w' (fun j u hj => ?_)
    have := hk' rfl b hb (fun g' hg' e => by rw [e3] at e; simp at e; subst e; exact hgX hg')
    rw [Nat.zero_add, cells_at (this.trans e2)]; simpa using hj
  | _ => exact hs.elim

end
end Go.E

namespace Go.E
open Go

section
variable {P : Program} {X : List Nat} {L : Lay} {w : World} {ρ : Operand → Value} {A : Operand → AV} {S : Sto}

theorem run_part' {t : Nat} {ag : Bool} {n : Nat} (h : lt P t = some (ag, n)) (w' : World) (cs : Array Value) (off : Nat) (hn : off + n ≤ cs.size) :
    (part t cs off).run P w' = .ok (if ag then .agg ((cs.toList.drop off).take n).toArray else ((cs.toList.drop off).take n).getD 0 undef) w' := by
  obtain ⟨d, i, h1, h2, h3⟩ := lt_spec h
  simp only [part, Sem.run_bind, run_isAgg' h, Result.andThen_ok]
  rcases h3 with ⟨rfl, _, h4⟩ | ⟨rfl, h4, _⟩
  · simp only [if_true, Sem.run_bind, run_sizeOf' h2, Result.andThen_ok, h4, Sem.run_pure]
    congr 2
    apply Array.toList_inj.1
    simp [Array.toList_extract, List.extract_eq_take_drop]
  · subst h4
    have hg : cs[off]? = some (cs[off]'(by omega)) := Array.getElem?_eq_getElem (by omega)
    have e : ((cs.toList.drop off).take 1).getD 0 undef = cs[off]'(by omega) := by
      simp [List.getD_eq_getElem?_getD, List.getElem?_take, hg]
    simp only [Bool.false_eq_true, if_false, hg, Sem.run_pure, e]

theorem fty_spec {s f off n : Nat} {ag : Bool} (h : fty P s f = some (off, ag, n)) : ∃ fs fd, P.underlying s = some (.struct fs) ∧ fs[f]? = some fd ∧ lt P fd.type = some (ag, n) ∧ fd.offset = off := by
  unfold fty at h
  split at h
  · rename_i fs hu
    split at h
    · rename_i fd hf
      simp only [Option.map_eq_some_iff] at h
      obtain ⟨⟨a, b⟩, h1, h2⟩ := h
      simp at h2; obtain ⟨rfl, rfl, rfl⟩ := h2
      exact ⟨fs, fd, hu, hf, h1, rfl⟩
    · cases h
  · cases h

def fieldV (x : AV) (off : Nat) (ag : Bool) (n : Nat) : AV :=
  match x with
  | .d (.agg cs) => .d (D.part cs off ag n)
  | .agg cs => AV.part cs off ag n
  | _ => .any
def fieldS (x : AV) (off n : Nat) : Prop :=
  match x with
  | .d (.agg cs) => off + n ≤ cs.length
  | .agg cs => off + n ≤ cs.length
  | _ => False

theorem field_rep {x : AV} {u : Value} {off n : Nat} {ag : Bool} (h : ARep L w x u) (hs : fieldS x off n) (h1 : ag = false → n = 1) : ∃ cs : Array Value, u = .agg cs ∧ off + n ≤ cs.size ∧
    ARep L w (fieldV x off ag n) (if ag then .agg ((cs.toList.drop off).take n).toArray else ((cs.toList.drop off).take n).getD 0 undef) := by
  cases x with
  | d y => cases y with
    | agg cs =>
      obtain ⟨us, e, hr⟩ := h
      exact ⟨us, e, by have := hr.length; simp at this; rw [this]; exact hs, part_rep hr hs h1⟩
    | _ => exact hs.elim
  | agg cs =>
    obtain ⟨us, e, hr⟩ := h
    exact ⟨us, e, by have := hr.length; simp at this; rw [this]; exact hs, apart_rep hr hs h1⟩
  | _ => exact hs.elim

theorem yv_field {dst type pos after guard} (s f off n : Nat) (ag : Bool) (x : Operand) (hx : ARep L w (A x) (ρ x)) (hf : fty P s f = some (off, ag, n)) (hs : fieldS (A x) off n) :
    Yv P X L w ρ ⟨dst, .field s x f, type, pos, after, guard⟩ (fieldV (A x) off ag n) := by
  obtain ⟨fs, fd, h1, h2, h3, h4⟩ := fty_spec hf
  obtain ⟨cs, e, hn, hr⟩ := field_rep (ag := ag) hx hs (lt_one h3)
  refine .of_all hr fun w' => ?_
  simp only [execOp, Instr.field, Sem.run_bind, run_underlying' h1, Result.andThen_ok, h2, e, asAgg, Sem.run_pure]
  rw [h4, run_part' h3 w' cs off hn]
  rfl

def extV (x : AV) (i : Nat) : AV := match x with | .d (.tup xs) => .d (xs.getD i (.v undef)) | .tup xs => xs.getD i .any | _ => .any
def extS (x : AV) (i : Nat) : Prop := match x with | .d (.tup xs) => i < xs.length | .tup xs => i < xs.length | _ => False
theorem yv_ext {dst type pos after guard} (x : Operand) (i : Nat) (hx : ARep L w (A x) (ρ x)) (hs : extS (A x) i) : Yv P X L w ρ ⟨dst, .extract x i, type, pos, after, guard⟩ (extV (A x) i) := by
  generalize A x = p at *
  have fin : ∀ (us : Array Value) (v : Value), ρ x = .tuple us → us[i]? = some v → ∀ w', (execOp ρ ⟨dst, .extract x i, type, pos, after, guard⟩).run P w' = .ok (.value v) w' := by
    intro us v e h w'
    simp [execOp, Instr.extract, e, h]
  cases p with
  | d y => cases y with
    | tup xs =>
      obtain ⟨us, e, hr⟩ := hx
      obtain ⟨v, hv, hd⟩ := hr.get i (xs.getD i (.v undef)) (by rw [List.getD_eq_getElem?_getD, List.getElem?_eq_getElem hs]; rfl)
      exact .of_all hd (fin us v e (by simpa using hv))
    | _ => exact hs.elim
  | tup xs =>
    obtain ⟨us, e, hr⟩ := hx
    obtain ⟨v, hv, hd⟩ := hr.get i (xs.getD i .any) (by rw [List.getD_eq_getElem?_getD, List.getElem?_eq_getElem hs]; rfl)
    exact .of_all hd (fin us v e (by simpa using hv))
  | _ => exact hs.elim

def ifV (t : Nat) (x : AV) : AV := match x with | .d y => .d (.iface t y) | x => .iface t x
theorem yv_iface {dst type pos after guard} (t : Nat) (x : Operand) (hx : ARep L w (A x) (ρ x)) (ht : notIface P t = true) : Yv P X L w ρ ⟨dst, .makeInterface t x, type, pos, after, guard⟩ (ifV t (A x)) := by
  refine .of_all (v := .iface t (ρ x)) ?_ fun w' => ?_
  · cases hA : A x <;> rw [hA] at hx <;> exact ⟨_, rfl, hx⟩
  · unfold notIface at ht
    cases hu : P.underlying t with
    | none => simp [hu] at ht
    | some d =>
      simp only [execOp, Instr.makeInterface, Sem.run_bind, run_underlying' hu, Result.andThen_ok]
      cases d <;> first | rfl | (simp [hu] at ht)

def cloV (fn : Fn) (x y : List AV) : AV := match AV.dl x, AV.dl y with | some a, some b => .d (.clo fn a b) | _, _ => .clo fn x y
theorem areps_map (hA : ∀ x, ARep L w (A x) (ρ x)) (l : List Operand) : AReps L w (l.map A) (l.map ρ) := by
  induction l with
  | nil => rfl
  | cons x l ih => exact ⟨_, _, rfl, hA x, ih⟩
theorem yv_clo {dst type pos after guard} (fn : Fn) (x y : Array Operand) (hA : ∀ x, ARep L w (A x) (ρ x)) : Yv P X L w ρ ⟨dst, .makeFunc fn x y, type, pos, after, guard⟩ (cloV fn (x.toList.map A) (y.toList.map A)) := by
  refine .of_all (v := .func fn (x.map ρ) (y.map ρ)) ?_ fun w' => by simp [execOp, Instr.makeFunc]
  have h1 : AReps L w (x.toList.map A) (x.map ρ).toList := by rw [Array.toList_map]; exact areps_map hA _
  have h2 : AReps L w (y.toList.map A) (y.map ρ).toList := by rw [Array.toList_map]; exact areps_map hA _
  unfold cloV
  split
  · rename_i a b ha hb; exact ⟨_, _, rfl, AV.dl_rep ha h1, AV.dl_rep hb h2⟩
  · exact ⟨_, _, rfl, h1, h2⟩

theorem yv_lenS {dst type pos after guard} (t e : Nat) (x : Operand) (hx : ARep L w (A x) (ρ x)) (hs : (A x).isSlice) (ht : isSliceTy P t = true) :
    Yv P X L w ρ ⟨dst, .call ⟨.builtin .len, #[x], #[t]⟩, type, pos, after, guard⟩ (.i (A x).rows.length) := by
  obtain ⟨a, c, e, _⟩ := isSlice_rep hs hx
  refine .of_all (v := .int .i64 ((A x).rows.length)) rfl fun w' => ?_
  unfold isSliceTy at ht
  cases hu : P.underlying t with
  | none => simp [hu] at ht
  | some d =>
    cases d <;> simp [hu] at ht
    simp [execOp, resolve, invoke, builtin, Builtin.len_, run_underlying' hu, e, goInt]

theorem yv_lenStr {dst type pos after guard} (t : Nat) (x : Operand) (hx : ARep L w (A x) (ρ x)) (hs : (A x).isStr) (ht : isStringTy P t = true) :
    Yv P X L w ρ ⟨dst, .call ⟨.builtin .len, #[x], #[t]⟩, type, pos, after, guard⟩ (.i (A x).str.size) := by
  have e := AV.isStr_rep hs hx
  refine .of_all (v := .int .i64 ((A x).str.size)) rfl fun w' => ?_
  unfold isStringTy at ht
  cases hu : P.underlying t with
  | none => simp [hu] at ht
  | some d =>
    cases d <;> simp [hu] at ht
    simp [execOp, resolve, invoke, builtin, Builtin.len_, run_underlying' hu, e, goInt]

theorem yv_max {dst type pos after guard} (ts : Array TypeId) (x y : Operand) (hx : ARep L w (A x) (ρ x)) (hy : ARep L w (A y) (ρ y)) (ix : (A x).isInt) (iy : (A y).isInt) :
    Yv P X L w ρ ⟨dst, .call ⟨.builtin .max, #[x, y], ts⟩, type, pos, after, guard⟩ (.d (.v (.int (A x).kind (max (A x).int (A y).int)))) := by
  refine .of_all rfl fun w' => ?_
  have e : (if (A x).int < (A y).int then (A y).int else (A x).int) = max (A x).int (A y).int := by omega
  simp [execOp, resolve, invoke, builtin, Builtin.max_, Builtin.max2, AV.isInt_rep ix hx, AV.isInt_rep iy hy, e]
theorem yv_min {dst type pos after guard} (ts : Array TypeId) (x y : Operand) (hx : ARep L w (A x) (ρ x)) (hy : ARep L w (A y) (ρ y)) (ix : (A x).isInt) (iy : (A y).isInt) :
    Yv P X L w ρ ⟨dst, .call ⟨.builtin .min, #[x, y], ts⟩, type, pos, after, guard⟩ (.d (.v (.int (A x).kind (min (A x).int (A y).int)))) := by
  refine .of_all rfl fun w' => ?_
  have e : (if (A y).int < (A x).int then (A y).int else (A x).int) = min (A x).int (A y).int := by omega
  simp [execOp, resolve, invoke, builtin, Builtin.min_, Builtin.min2, AV.isInt_rep ix hx, AV.isInt_rep iy hy, e]

end
end Go.E

namespace Go.E
open Go

section
variable {P : Program} {X : List Nat} {L : Lay} {w : World} {ρ : Operand → Value} {A : Operand → AV} {S : Sto}

def optI (A : Operand → AV) (o : Option Operand) (dflt : Int) : Int := match o with | some x => (A x).int | none => dflt
def optS (A : Operand → AV) (o : Option Operand) : Prop := match o with | some x => (A x).isInt | none => True

theorem run_bound {x : Operand} (hx : ARep L w (A x) (ρ x)) (ix : (A x).isInt) (y : Nat) (c : BoundsCode) (h : 0 ≤ (A x).int ∧ (A x).int ≤ y) (w' : World) : (Instr.sliceBound (ρ x) y c).run P w' = .ok (A x).int.toNat w' := by
  simp [Instr.sliceBound, asIntOf, AV.isInt_rep ix hx, h]

theorem run_bounds (b : Bool) (len cap : Nat) (lo hi : Option Operand) (hA : ∀ x, ARep L w (A x) (ρ x)) (h1 : optS A lo) (h2 : optS A hi) (g0 : 0 ≤ optI A lo 0) (g1 : optI A lo 0 ≤ optI A hi len) (g2 : optI A hi len ≤ cap) (w' : World) :
    (Instr.sliceBounds b len cap (lo.map ρ) (hi.map ρ) none).run P w' = .ok ((optI A lo 0).toNat, (optI A hi len).toNat, cap) w' := by
  unfold Instr.sliceBounds
  cases hi with
  | none =>
    cases lo with
    | none => simp [optI]
    | some l =>
      simp only [optI, optS] at *
      simp [run_bound (hA l) h1 len _ ⟨g0, g1⟩, optI]
  | some h =>
    simp only [optS] at h2
    cases lo with
    | none =>
      simp only [optI] at *
      simp [run_bound (hA h) h2 cap _ ⟨by omega, g2⟩]
    | some l =>
      simp only [optI, optS] at *
      simp [run_bound (hA h) h2 cap _ ⟨by omega, g2⟩, run_bound (hA l) h1 (A h).int.toNat _ ⟨g0, by omega⟩]

def slcV (x : AV) (l h : Nat) : AV := match x with | .d (.sl s r) => .d (.sl s ((r.take h).drop l)) | .d (.v (.string s)) => .d (.v (.string (s.extract l h))) | _ => .any
def AV.isSlD (s : Nat) : AV → Prop | .d (.sl s' _) => s' = s | _ => False

theorem yv_slcS {dst type pos after guard} (t s : Nat) (x : Operand) (lo hi : Option Operand) (hA : ∀ x, ARep L w (A x) (ρ x)) (hsl : (A x).isSlD s) (ht : ixs P t = some s) (h1 : optS A lo) (h2 : optS A hi)
    (g0 : 0 ≤ optI A lo 0) (g1 : optI A lo 0 ≤ optI A hi (A x).rows.length) (g2 : optI A hi (A x).rows.length ≤ (A x).rows.length) :
    Yv P X L w ρ ⟨dst, .slice t x lo hi none, type, pos, after, guard⟩ (slcV (A x) (optI A lo 0).toNat (optI A hi (A x).rows.length).toNat) := by
  obtain ⟨el, inf, hu, hinf, hsz⟩ := ixs_spec ht
  have hx := hA x
  generalize hp : A x = p at *
  cases p with
  | d y => cases y with
    | sl s' r =>
      obtain rfl : s' = s := hsl
      obtain ⟨a, n, c, e, e2, e3, hr⟩ := hx
      change optI A lo 0 ≤ optI A hi r.length at g1
      change optI A hi r.length ≤ r.length at g2
      show Yv P X L w ρ _ (.d (.sl s' ((r.take (optI A hi r.length).toNat).drop (optI A lo 0).toNat)))
      have hb := fun w' => run_bounds (P := P) (L := L) (w := w) true n c lo hi hA h1 h2 g0 (by rw [e2]; exact g1) (by rw [e2]; omega) w'
      rw [e2] at hb
      generalize hl : optI A lo 0 = l at *
      generalize hh : optI A hi r.length = h at *
      refine .of_all (v := .slice (if c = l.toNat then a else a.map (·.add (l.toNat * s'))) (h.toNat - l.toNat) (c - l.toNat)) ?_ fun w' => ?_
      · have hlen : ((r.take h.toNat).drop l.toNat).length = h.toNat - l.toNat := by simp; omega
        refine ⟨_, _, _, rfl, hlen.symm, by omega, ?_⟩
        rcases hr with ⟨_, h3, h4⟩ | ⟨b, o, rfl, hr⟩
        · exact .inl ⟨rfl, by omega, by omega⟩
        · refine .inr ?_
          by_cases hc : c = l.toNat
          · refine ⟨b, o, by simp [hc], ?_⟩
            have : (r.take h.toNat).drop l.toNat = [] := List.eq_nil_of_length_eq_zero (by omega)
            rw [this]; trivial
          · refine ⟨b, o + l.toNat * s', by simp [hc, add_none], DRows.of_get fun j q hj => ?_⟩
            rw [List.getElem?_drop, List.getElem?_take] at hj
            split at hj
            · have := hr.get _ _ hj
              rw [Nat.zero_add] at this ⊢
              rw [Nat.add_mul, ← Nat.add_assoc] at this
              exact this
            · cases hj
      · simp only [execOp, Instr.sliceAt, Sem.run_bind, run_underlying' hu, Result.andThen_ok, Instr.slice, e, Option.map_none, e2, hb, run_sizeOf' hinf, hsz, Sem.run_pure]
    | _ => exact hsl.elim
  | _ => exact hsl.elim

theorem yv_slcStr {dst type pos after guard} (t : Nat) (x : Operand) (lo hi : Option Operand) (hA : ∀ x, ARep L w (A x) (ρ x)) (hsl : (A x).isStr) (ht : isStringTy P t = true) (h1 : optS A lo) (h2 : optS A hi)
    (g0 : 0 ≤ optI A lo 0) (g1 : optI A lo 0 ≤ optI A hi (A x).str.size) (g2 : optI A hi (A x).str.size ≤ (A x).str.size) :
    Yv P X L w ρ ⟨dst, .slice t x lo hi none, type, pos, after, guard⟩ (.d (.v (.string ((A x).str.extract (optI A lo 0).toNat (optI A hi (A x).str.size).toNat)))) := by
  have e := AV.isStr_rep hsl (hA x)
  have hb := fun w' => run_bounds (P := P) (L := L) (w := w) false (A x).str.size (A x).str.size lo hi hA h1 h2 g0 g1 g2 w'
  unfold isStringTy at ht
  cases hu : P.underlying t with
  | none => simp [hu] at ht
  | some d =>
    cases d <;> simp [hu] at ht
    refine .of_all rfl fun w' => ?_
    simp [execOp, Instr.sliceAt, run_underlying' hu, Instr.slice, e, hb]

theorem yv_idxStr {dst type pos after guard} (t : Nat) (x i : Operand) (hx : ARep L w (A x) (ρ x)) (hi : ARep L w (A i) (ρ i)) (hs : (A x).isStr) (ii : (A i).isInt) (ht : isStringTy P t = true)
    (h0 : 0 ≤ (A i).int) (h1 : (A i).int < (A x).str.size) : Yv P X L w ρ ⟨dst, .index t x i, type, pos, after, guard⟩ (.d (.v (.int .u8 ((A x).str.data.getD (A i).int.toNat 0).toNat))) := by
  have e := AV.isStr_rep hs hx
  have ei := AV.isInt_rep ii hi
  unfold isStringTy at ht
  cases hu : P.underlying t with
  | none => simp [hu] at ht
  | some d =>
    cases d <;> simp [hu] at ht
    refine .of_all rfl fun w' => ?_
    have hlt : (A i).int.toNat < (A x).str.size := by omega
    have hg : (A x).str[(A i).int.toNat]? = some ((A x).str.data.getD (A i).int.toNat 0) := by
      rw [getElem?_pos (A x).str _ hlt]
      have h2 : (A i).int.toNat < (A x).str.data.size := hlt
      simp only [Array.getD_eq_getD_getElem?, Array.getElem?_eq_getElem h2, Option.getD_some]
      rfl
    simp [execOp, Instr.index, asIntOf, ei, e, run_underlying' hu, h0, hg]

theorem yv_idxA {dst type pos after guard} (t n s : Nat) (x i : Operand) (hx : ARep L w (A x) (ρ x)) (hi : ARep L w (A i) (ρ i)) (hp : (A x).isPtr) (ii : (A i).isInt) (ht : ixa P t = some (n, s)) (h0 : 0 ≤ (A i).int) (h1 : (A i).int < n) :
    Yv P X L w ρ ⟨dst, .indexAddr t x i, type, pos, after, guard⟩ (addF (A x) ((A i).int.toNat * s)) := by
  obtain ⟨b, o', e, hr⟩ := isPtr_rep hp hx
  have ei := AV.isInt_rep ii hi
  unfold ixa at ht
  split at ht
  · rename_i n' el hu
    cases hinf : P.info? el with
    | none => simp [hinf] at ht
    | some inf =>
      simp [hinf] at ht
      obtain ⟨rfl, hsz⟩ := ht
      refine .of_all (hr _) fun w' => ?_
      simp [execOp, Instr.indexAt, asIntOf, ei, e, run_underlying' hu, Instr.sureAddr, h0, h1, run_sizeOf' hinf, hsz, add_none]
  · cases ht
theorem yv_idxE {dst type pos after guard} (t n s : Nat) (ag : Bool) (x i : Operand) (hx : ARep L w (A x) (ρ x)) (hi : ARep L w (A i) (ρ i)) (ii : (A i).isInt) (ht : ixe P t = some (n, ag, s)) (h0 : 0 ≤ (A i).int) (h1 : (A i).int < n) (hs : fieldS (A x) ((A i).int.toNat * s) s) :
    Yv P X L w ρ ⟨dst, .index t x i, type, pos, after, guard⟩ (fieldV (A x) ((A i).int.toNat * s) ag s) := by
  have ei := AV.isInt_rep ii hi
  unfold ixe at ht
  split at ht
  · rename_i n' el hu
    split at ht
    · rename_i z inf hl k2
      obtain ⟨ag', s'⟩ := z
      split at ht
      · rename_i hsz
        cases ht
        obtain ⟨cs, e, hn, hr⟩ := field_rep (ag := ag') hx hs (lt_one hl)
        refine .of_all hr fun w' => ?_
        simp only [execOp, Instr.index, Sem.run_bind, asIntOf, ei, Sem.run_pure, run_underlying' hu, Result.andThen_ok, e]
        rw [if_pos ⟨h0, h1⟩]
        simp only [Sem.run_bind, run_sizeOf' k2, Result.andThen_ok, hsz]
        rw [run_part' hl w' cs _ hn]
        rfl
      · cases ht
    · cases ht
  · cases ht

def asrt (P : Program) (x : AV) (t : Nat) (ok : Bool) : AV :=
  let zero : AV := match P.info? t with | some i => (match i.zero with | some z => cst z | none => .any) | none => .any
  match x with
  | .d (.iface u y) => if u = t then (if ok then AV.mkTup [.d y, .b true] else .d y) else AV.mkTup [zero, .b false]
  | .iface u y => if u = t then (if ok then AV.mkTup [y, .b true] else y) else AV.mkTup [zero, .b false]
  | _ => AV.mkTup [zero, .b false]
def zeroed (P : Program) (t : Nat) : Bool := match P.info? t with | some i => i.zero.isSome | none => false
def asrtS (P : Program) (x : AV) (t : Nat) (ok : Bool) : Prop :=
  notIface P t = true ∧ zeroed P t = true ∧ match x with
  | .d (.iface u _) => ok = true ∨ u = t
  | .iface u _ => ok = true ∨ u = t
  | .d (.v .nilIface) => ok = true
  | _ => False

theorem yv_asrt {dst type pos after guard} (x : Operand) (xt t : Nat) (ok : Bool) (hx : ARep L w (A x) (ρ x)) (hs : asrtS P (A x) t ok) : Yv P X L w ρ ⟨dst, .typeAssert x xt t ok, type, pos, after, guard⟩ (asrt P (A x) t ok) := by
  obtain ⟨h1, h2, h3⟩ := hs
  unfold notIface at h1
  cases hu : P.underlying t with
  | none => simp [hu] at h1
  | some d =>
    have hni : ∀ ms, d ≠ .interface ms := by intro ms e; subst e; simp [hu] at h1
    unfold zeroed at h2
    cases hi : P.info? t with
    | none => simp [hi] at h2
    | some i =>
      cases hz : i.zero with
      | none => simp [hi, hz] at h2
      | some z =>
        have hzero : ∀ w', (zeroValue t).run P w' = .ok z w' := fun w' => by simp [zeroValue, run_typeInfo' hi, hz]
        have two : ∀ (p q : AV) (u v : Value), ARep L w p u → ARep L w q v → ARep L w (AV.mkTup [p, q]) (.tuple #[u, v]) := fun p q u v hp hq =>
          AV.mkTup_rep ⟨u, [v], rfl, hp, v, [], rfl, hq, rfl⟩
        have run : ∀ v w', (Instr.typeAssert v xt t ok).run P w' = (match v with
            | .nilIface => if ok then .ok (.tuple #[z, .bool false]) w' else (runtimePanic (α := Value) (.typeAssertion (some xt) none t "")).run P w'
            | .iface u y => if u = t then .ok (if ok then .tuple #[y, .bool true] else y) w' else if ok then .ok (.tuple #[z, .bool false]) w' else (runtimePanic (α := Value) (.typeAssertion (some xt) (some u) t "")).run P w'
            | _ => (stuck (α := Value) "TypeAssert: interface value expected").run P w') := by
          intro v w'
          simp only [Instr.typeAssert, Sem.run_bind, run_underlying' hu, Result.andThen_ok]
          cases d <;> first | exact (hni _ rfl).elim | (cases v <;> simp <;> (try split) <;> (cases ok <;> simp [hzero]))
        have go : ∀ v v', ρ x = v → (∀ w', (Instr.typeAssert v xt t ok).run P w' = .ok v' w') → ∀ w', (execOp ρ ⟨dst, .typeAssert x xt t ok, type, pos, after, guard⟩).run P w' = .ok (.value v') w' := by
          intro v v' e hr w'
          simp [execOp, e, hr]
        generalize A x = p at *
        unfold asrt
        simp only [hi, hz]
        cases p with
        | d y => cases y with
          | iface u y =>
            obtain ⟨y', e, hy⟩ := hx
            by_cases hut : u = t
            · simp only [hut, if_true]
              refine .of_all (v := if ok then .tuple #[y', .bool true] else y') ?_ (go _ _ e fun w' => by rw [run]; simp [hut])
              cases ok
              · exact hy
              · exact two (.d y) (.b true) _ (.bool true) hy rfl
            · simp only [hut, or_false] at h3
              subst h3
              simp only [hut, if_false]
              exact .of_all (two _ _ _ _ (cst_rep z) rfl) (go _ _ e fun w' => by rw [run]; simp [hut])
          | v q =>
            cases q <;> first | exact h3.elim | skip
            simp only at h3; subst h3
            exact .of_all (two _ _ _ _ (cst_rep z) rfl) (go _ _ hx fun w' => by rw [run]; simp)
          | _ => exact h3.elim
        | iface u y =>
          obtain ⟨y', e, hy⟩ := hx
          by_cases hut : u = t
          · simp only [hut, if_true]
            refine .of_all (v := if ok then .tuple #[y', .bool true] else y') ?_ (go _ _ e fun w' => by rw [run]; simp [hut])
            cases ok
            · exact hy
            · exact two _ _ _ _ hy rfl
          · simp only [hut, or_false] at h3
            subst h3
            simp only [hut, if_false]
            exact .of_all (two _ _ _ _ (cst_rep z) rfl) (go _ _ e fun w' => by rw [run]; simp [hut])
        | _ => exact h3.elim

end
end Go.E

namespace Go.E
open Go

def AV.cells? : AV → Option (List AV)
  | .any => none
  | .d (.agg cs) => some (cs.map .d)
  | .d (.tup _) => none
  | .d (.v x) => if x.oneCell' = true then some [.d (.v x)] else none
  | .d y => some [.d y]
  | .agg xs => some xs
  | .tup _ => none
  | x => some [x]
def D.cells? : D → Option (List D)
  | .agg cs => some cs
  | .tup _ => none
  | .v x => if x.oneCell' = true then some [.v x] else none
  | y => some [y]

theorem cells_one {u : Value} (h : u.oneCell' = true) : u.cells.toList = [u] := by
  cases u <;> first | rfl | cases h
theorem areps_d {L : Lay} {w : World} : ∀ {cs : List D} {us : List Value}, DReps (L.mem w) cs us → AReps L w (cs.map .d) us
  | [], _, h => h
  | _ :: cs, _, ⟨u, ut, e, h1, h2⟩ => ⟨u, ut, e, h1, areps_d h2⟩

theorem AV.cells_rep {L : Lay} {w : World} {x : AV} {cs : List AV} {u : Value} (h : x.cells? = some cs) (k : ARep L w x u) : AReps L w cs u.cells.toList := by
  have one : ∀ (y : AV), ARep L w y u → u.oneCell' = true → some [y] = some cs → AReps L w cs u.cells.toList := by
    intro y hy h1 e
    simp at e; subst e
    rw [cells_one h1]; exact ⟨u, [], rfl, hy, rfl⟩
  cases x with
  | any => cases h
  | d y =>
    cases y with
    | agg ds => simp [AV.cells?] at h; subst h; obtain ⟨us, e, hr⟩ := k; rw [e]; exact areps_d hr
    | tup _ => cases h
    | v x =>
      change (if x.oneCell' = true then some [AV.d (.v x)] else none) = some cs at h
      by_cases h1 : x.oneCell' = true
      · rw [if_pos h1] at h; exact one _ k (by rw [show u = x from k]; exact h1) h
      · rw [if_neg h1] at h; cases h
    | sl s rows => exact one _ k (D.one_rep (d := .sl s rows) rfl k) h
    | ptr a b => exact one _ k (D.one_rep (d := .ptr a b) rfl k) h
    | iface a b => exact one _ k (D.one_rep (d := .iface a b) rfl k) h
    | clo a b c => exact one _ k (D.one_rep (d := .clo a b c) rfl k) h
  | own g e s rows =>
    refine one _ k ?_ h
    obtain ⟨_, xs, hr, _⟩ := k
    rcases hr.2 with ⟨e, _⟩ | ⟨_, _, _, e, _⟩ <;> rw [e] <;> rfl
  | eref g e s rows i off =>
    refine one _ k ?_ h
    obtain ⟨_, _, b, n, c, _, e⟩ := k
    rw [e]; rfl
  | ref g off => exact one _ k (by rw [show u = _ from k.1]; rfl) h
  | yld g ps as bd N => exact one _ k (by obtain ⟨r, _, e, _⟩ := k; rw [e]; rfl) h
  | mp g => exact one _ k (by rw [k.1]; rfl) h
  | it g => exact one _ k (by rw [k.1]; rfl) h
  | bx g i off => exact one _ k (by obtain ⟨_, _, _, _, e⟩ := k; rw [e]; rfl) h
  | tup _ => cases h
  | agg xs => simp [AV.cells?] at h; subst h; obtain ⟨us, e, hr⟩ := k; rw [e]; exact hr
  | clo f a b => exact one _ k (by obtain ⟨_, _, e, _⟩ := k; rw [e]; rfl) h
  | iface t y => exact one _ k (by obtain ⟨_, e, _⟩ := k; rw [e]; rfl) h

theorem D.cells_rep {m : Mem} {x : D} {cs : List D} {u : Value} (h : x.cells? = some cs) (k : DRep m x u) : DReps m cs u.cells.toList := by
  have one : u.oneCell' = true → some [x] = some cs → DReps m cs u.cells.toList := by
    intro h1 e
    simp at e; subst e
    rw [cells_one h1]; exact ⟨u, [], rfl, k, rfl⟩
  cases x with
  | agg ds => simp [D.cells?] at h; subst h; obtain ⟨us, e, hr⟩ := k; rw [e]; exact hr
  | tup _ => cases h
  | v x =>
    change (if x.oneCell' = true then some [D.v x] else none) = some cs at h
    by_cases h1 : x.oneCell' = true
    · rw [if_pos h1] at h; exact one (by rw [show u = x from k]; exact h1) h
    · rw [if_neg h1] at h; cases h
  | sl s rows => exact one (D.one_rep (d := .sl s rows) rfl k) h
  | ptr a b => exact one (D.one_rep (d := .ptr a b) rfl k) h
  | iface a b => exact one (D.one_rep (d := .iface a b) rfl k) h
  | clo a b c => exact one (D.one_rep (d := .clo a b c) rfl k) h

def Sto.ins (k : Nat) (c : List AV) : Sto → Sto
  | [] => [(k, c)]
  | (h, x) :: r => if k < h then (k, c) :: (h, x) :: r else (h, x) :: Sto.ins k c r
theorem Sto.get_ins {k g : Nat} {c : List AV} : ∀ {S : Sto}, S.get k = none → (S.ins k c).get g = if k = g then some c else S.get g
  | [], _ => by simp [Sto.ins, Sto.get]
  | (h, x) :: r, hk => by
    simp only [Sto.get] at hk
    split at hk
    · cases hk
    · rename_i hne
      unfold Sto.ins
      split
      · simp only [Sto.get]
      · simp only [Sto.get]
        rw [Sto.get_ins hk]
        by_cases h1 : h = g
        · subst h1
          rw [if_pos rfl, if_neg (fun e => hne e.symm), if_pos rfl]
        · simp [h1]

theorem rel_obj {W0 : World} {L0 L : Lay} {env : List AV} {S : Sto} {w : World} {a : Act} (hr : Rel W0 L0 L env S w a) {k : Nat} (hk : k ≠ 0) (hkb : k < 1000000000) (hm : AV.mens k env = false) (hs : S.mens k = false) (hg : S.get k = none)
    {cells : List AV} {us : Array Value} (t : Nat) (hc : AReps L w cells us.toList) (hcm : AV.mens k cells = false) :
    ∃ L', Rel W0 L0 L' env (S.ins k cells) (w.alloc (.cells us t)) a ∧ ARep L' (w.alloc (.cells us t)) (.ref k 0) (.pointer (some ⟨w.heap.size, 0, none⟩)) := by
  let L' : Lay := { L with own := fun b => if b = w.heap.size then some k else L.own b, blk := fun g => if g = k then w.heap.size else L.blk g }
  have hsame : Same k L w L' (w.alloc (.cells us t)) := ⟨fun b hb _ => ⟨RowKit.Below.heap_alloc w _ b hb, by simp [L', Nat.ne_of_lt hb]⟩, fun g hg => by simp [L', hg], fun _ _ => rfl, rfl, fun _ _ => rfl⟩
  have h1 := hr.step hk hsame hm hs hg (hr.not_old hk) (by simp) (fun b g hb => by
    simp only [L'] at hb
    split at hb
    · rename_i e; subst e; simp
    · have := hr.own_lt b g hb; simp; omega) rfl rfl rfl
  have hlk : L.lk k = none := by
    cases h : L.lk k with
    | none => rfl
    | some r => have := (hr.lkb k r (by rw [← hr.lke, h])).1; omega
  refine ⟨L', { h1 with objs := fun g c hgc => ?_ }, by simp [L'], hlk, by omega⟩
  rw [Sto.get_ins hg] at hgc
  split at hgc
  · rename_i e; subst e; simp at hgc; subst hgc
    exact ⟨fun h0 => absurd h0 hk, fun _ => ⟨us.toList, by unfold Held; rw [show L'.lk k = none from hlk]; exact .inl ⟨by simp [L'], .inl ⟨by omega, us, t, by simp only [L', if_true]; exact heap_alloc_new w _, rfl⟩⟩, AReps.same hsame _ _ hcm hc⟩⟩
  · exact h1.objs g c hgc

theorem rel_row {W0 : World} {L0 L : Lay} {env : List AV} {S : Sto} {w w' : World} {a : Act} (hr : Rel W0 L0 L env S w a) {k : Nat} (hk : k ≠ 0) (hm : AV.mens k env = false) (hs : S.mens k = false) (hg : S.get k = none)
    {e s : Nat} {rows : List (List D)} {v : Value} {xs : List Value} (hsz : w.heap.size ≤ w'.heap.size) (ho : w'.os = w.os) (ht : w'.tape = w.tape) (hout : w'.output = w.output)
    (hb : ∀ b, b < w.heap.size → L.own b ≠ some k → w'.heap[b]? = w.heap[b]?)
    (hv : ∀ b, v.ownBlock = some b → (L.own b = some k ∨ w.heap.size ≤ b)) (hown : w'.ownsRow 0 e s v rows.length xs) (hl : ∀ r ∈ rows, r.length = s) (h1 : ∀ x ∈ xs, x.oneCell' = true) (hx : DReps (L.mem w) rows.flatten xs) :
    ∃ L', Rel W0 L0 L' env S w' a ∧ ARep L' w' (.own k e s rows) v := by
  classical
  let L' : Lay := { L with own := fun b => if v.ownBlock = some b then some k else L.own b, hdr := fun g => if g = k then v else L.hdr g }
  have hsame : Same k L w L' w' := ⟨fun b hlt hne => ⟨hb b hlt hne, by
    simp only [L']
    split
    · rename_i e; rcases hv b e with h | h
      · exact absurd h hne
      · omega
    · rfl⟩, fun _ _ => rfl, fun g hg => by simp [L', hg], rfl, fun _ _ => rfl⟩
  have hrel := hr.step hk hsame hm hs hg (hr.not_old hk) hsz (fun b g hb => by
    simp only [L'] at hb
    split at hb
    · rename_i e; exact (hown.lt b e).2
    · exact Nat.lt_of_lt_of_le (hr.own_lt b g hb) hsz) ho ht hout
  exact ⟨L', hrel, by simp [L'], xs, hown, fun b hb => by simp [L', hb], hl, h1, DReps.mono hsame.mem _ _ hx⟩

end Go.E

namespace Go.E
open Go

def AV.isNilS : AV → Prop | .d (.v (.slice none 0 0)) => True | _ => False
def AV.isNoRows : AV → Prop | .d (.sl _ []) => True | _ => False
theorem AV.noRows_rep {L : Lay} {w : World} {x y : AV} {u : Value} (hx : x.isNilS) (hy : y.isNoRows) (k : ARep L w x u) : ARep L w y u := by
  unfold AV.isNilS at hx
  split at hx
  · unfold AV.isNoRows at hy
    split at hy
    · have hu : u = .slice none 0 0 := k
      exact ⟨none, 0, 0, hu, rfl, Nat.le_refl _, .inl ⟨rfl, rfl, rfl⟩⟩
    · exact hy.elim
  · exact hx.elim
def Wk : List AV → List AV → Prop
  | [], ys => ys = []
  | x :: xs, ys => ∃ y yt, ys = y :: yt ∧ (y = .any ∨ x = y ∨ (x.isNilS ∧ y.isNoRows)) ∧ Wk xs yt
theorem Wk.refl : ∀ xs, Wk xs xs
  | [] => rfl
  | x :: xs => ⟨x, xs, rfl, .inr (.inl rfl), Wk.refl xs⟩
theorem Wk.reps {L : Lay} {w : World} : ∀ {xs ys : List AV} {us : List Value}, Wk xs ys → AReps L w xs us → AReps L w ys us
  | [], _, _, h, k => by rw [show _ = [] from h]; exact k
  | x :: xs, _, _, ⟨y, yt, e, h1, h2⟩, ⟨u, ut, e2, k1, k2⟩ => by
    rw [e, e2]
    refine ⟨u, ut, rfl, ?_, Wk.reps h2 k2⟩
    rcases h1 with rfl | rfl | ⟨h1, h3⟩
    · trivial
    · exact k1
    · exact AV.noRows_rep h1 h3 k1

theorem Rel.weaken {W0 : World} {L0 L : Lay} {env env' : List AV} {S S' : Sto} {w : World} {a : Act} (hr : Rel W0 L0 L env S w a) (h : Wk env env')
    (hS : ∀ g c, S'.get g = some c → ∃ c0, S.get g = some c0 ∧ Wk c0 c) : Rel W0 L0 L env' S' w a :=
  { hr with
    slots := h.reps hr.slots
    objs := fun g c hc => by
      obtain ⟨c0, h1, h2⟩ := hS g c hc
      refine ⟨fun h0 => h2.reps ((hr.objs g c0 h1).1 h0), fun h0 => ?_⟩
      obtain ⟨vs, e1, e3⟩ := (hr.objs g c0 h1).2 h0
      exact ⟨vs, e1, h2.reps e3⟩ }

def AV.kill (k : Nat) (x : AV) : AV := if x.men k = true then .any else x
def Sto.kill (k : Nat) : Sto → Sto
  | [] => []
  | (h, c) :: r => if h = k then Sto.kill k r else (h, c.map (AV.kill k)) :: Sto.kill k r

theorem wk_kill (k : Nat) : ∀ xs, Wk xs (xs.map (AV.kill k))
  | [] => rfl
  | x :: xs => ⟨_, _, rfl, by unfold AV.kill; split <;> simp, wk_kill k xs⟩
theorem mens_kill (k : Nat) : ∀ xs : List AV, AV.mens k (xs.map (AV.kill k)) = false
  | [] => rfl
  | x :: xs => by
    simp only [List.map_cons, AV.mens, Bool.or_eq_false_iff]
    refine ⟨?_, mens_kill k xs⟩
    unfold AV.kill; split
    · rfl
    · rename_i h; simpa using h
theorem Sto.kill_get {k g : Nat} {c : List AV} : ∀ {S : Sto}, (S.kill k).get g = some c → g ≠ k ∧ ∃ c0, S.get g = some c0 ∧ c = c0.map (AV.kill k)
  | [], h => by simp [Sto.kill, Sto.get] at h
  | (h0, x) :: r, h => by
    unfold Sto.kill at h
    by_cases hk : h0 = k
    · rw [if_pos hk] at h
      obtain ⟨h1, c0, h2, h3⟩ := Sto.kill_get h
      refine ⟨h1, c0, ?_, h3⟩
      simp only [Sto.get]
      rw [if_neg (fun e => h1 (by rw [← e, hk]))]
      exact h2
    · rw [if_neg hk] at h
      simp only [Sto.get] at h ⊢
      by_cases hg : h0 = g
      · rw [if_pos hg] at h
        simp at h; subst h
        exact ⟨fun e => hk (by rw [hg, e]), x, by rw [if_pos hg], rfl⟩
      · rw [if_neg hg] at h ⊢
        exact Sto.kill_get h
theorem Sto.kill_none (k : Nat) (S : Sto) : (S.kill k).get k = none := by
  cases h : (S.kill k).get k with
  | none => rfl
  | some c => exact absurd rfl (Sto.kill_get h).1
theorem Sto.mens_killed (k : Nat) : ∀ S : Sto, (S.kill k).mens k = false
  | [] => rfl
  | (h, c) :: r => by
    unfold Sto.kill
    split
    · exact Sto.mens_killed k r
    · simp only [Sto.mens, Bool.or_eq_false_iff]
      exact ⟨mens_kill k c, Sto.mens_killed k r⟩
theorem Rel.kill {W0 : World} {L0 L : Lay} {env : List AV} {S : Sto} {w : World} {a : Act} (hr : Rel W0 L0 L env S w a) (k : Nat) : Rel W0 L0 L (env.map (AV.kill k)) (S.kill k) w a :=
  hr.weaken (wk_kill k env) fun g c hc => by
    obtain ⟨_, c0, h1, h2⟩ := Sto.kill_get hc
    exact ⟨c0, h1, by rw [h2]; exact wk_kill k c0⟩

theorem DCells.append {m : Mem} {b : Nat} : ∀ {xs ys : List D} {o : Nat}, DCells m b o xs → DCells m b (o + xs.length) ys → DCells m b o (xs ++ ys)
  | [], _, _, _, k => by simpa using k
  | x :: xs, ys, o, ⟨h1, h2⟩, k => ⟨h1, DCells.append h2 (by rw [List.length_cons] at k; rw [show o + 1 + xs.length = o + (xs.length + 1) by omega]; exact k)⟩
theorem DRows.flat {m : Mem} {b o s : Nat} : ∀ {rs : List (List D)} {i : Nat}, DRows m b o s i rs → DCells m b (o + i * s) rs.flatten
  | [], _, _ => trivial
  | r :: rs, i, ⟨h1, h2, h3⟩ => by
    rw [List.flatten_cons]
    refine DCells.append h2 ?_
    have := DRows.flat h3
    rw [Nat.add_mul, Nat.one_mul] at this
    rw [h1, Nat.add_assoc]; exact this
theorem DRows.lens {m : Mem} {b o s : Nat} : ∀ {rs : List (List D)} {i : Nat}, DRows m b o s i rs → ∀ r ∈ rs, r.length = s
  | [], _, _, r, h => by cases h
  | x :: rs, i, ⟨h1, _, h3⟩, r, h => by
    rcases List.mem_cons.1 h with rfl | h
    · exact h1
    · exact DRows.lens h3 r h
theorem DCells.reps1 {m : Mem} {b : Nat} : ∀ {ds : List D} {o : Nat}, DCells m b o ds → ∃ us : List Value, DReps m ds us ∧ (∀ x ∈ us, x.oneCell' = true) ∧ ∀ j u, us[j]? = some u → m b (o + j) = some u
  | [], _, _ => ⟨[], rfl, (fun x h => by cases h), fun j u h => by simp at h⟩
  | d :: ds, o, ⟨⟨u, hu, h1, k⟩, k2⟩ => by
    obtain ⟨us, g1, g2, g3⟩ := DCells.reps1 k2
    refine ⟨u :: us, ⟨u, us, rfl, k, g1⟩, fun x hx => ?_, fun j x hj => ?_⟩
    · rcases List.mem_cons.1 hx with rfl | hx
      · exact h1
      · exact g2 x hx
    · cases j with
      | zero => simp at hj; subst hj; exact hu
      | succ j => rw [show o + (j + 1) = o + 1 + j by omega]; exact g3 j x (by simpa using hj)

theorem flatten_len {s : Nat} : ∀ {rows : List (List D)}, (∀ r ∈ rows, r.length = s) → rows.flatten.length = rows.length * s
  | [], _ => by simp
  | r :: rs, h => by
    rw [List.flatten_cons, List.length_append, h r (by simp), flatten_len (fun r hr => h r (List.mem_cons_of_mem _ hr)), List.length_cons, Nat.add_mul, Nat.one_mul, Nat.add_comm]

theorem src_rep {L : Lay} {w : World} {s : Nat} {x : AV} {u : Value} (hs : x.isSl s) (k : ARep L w x u) : (u = .slice none 0 0 ∧ x.rows = []) ∨
    ∃ b o p c us, u = .slice (some ⟨b, o, p⟩) x.rows.length c ∧ us.length = x.rows.length * s ∧ (∀ j v, us[j]? = some v → w.cell? ((⟨b, o, p⟩ : Addr).add j) = some v) ∧ (∀ v ∈ us, v.oneCell' = true) ∧
      DReps (L.mem w) x.rows.flatten us ∧ ∀ r ∈ x.rows, r.length = s := by
  cases x with
  | d y => cases y with
    | sl s' rows =>
      obtain rfl : s' = s := hs
      obtain ⟨a, n, c, e, e2, e3, hr⟩ := k
      rcases hr with ⟨_, h2, h3⟩ | ⟨b, o, rfl, hr⟩
      · subst h2
        obtain rfl := List.eq_nil_of_length_eq_zero e2.symm
        rcases a with _ | ⟨b, o, p⟩
        · exact .inl ⟨by rw [e, h3], rfl⟩
        · refine .inr ⟨b, o, p, c, [], e, by simp [AV.rows], ?_, ?_, rfl, ?_⟩
          · intro j v hj; simp at hj
          · intro v hv; simp at hv
          · intro r hr; simp [AV.rows] at hr
      · obtain ⟨us, g1, g2, g3⟩ := DCells.reps1 hr.flat
        refine .inr ⟨b, o, none, c, us, by rw [e, e2]; rfl, ?_, fun j v hj => ?_, g2, g1, hr.lens⟩
        · rw [g1.length, flatten_len hr.lens]; rfl
        · rw [add_none]; have := g3 j v hj; rw [Nat.zero_mul, Nat.add_zero] at this; exact (look_some.1 this).2
    | v z =>
      have hz : z = .slice none 0 0 := by unfold AV.isSl at hs; split at hs <;> simp_all
      subst hz; exact .inl ⟨k, rfl⟩
    | _ => exact hs.elim
  | own g e s' rows =>
    obtain rfl : s' = s := hs
    obtain ⟨_, xs, hr, _, h3, h4, h5⟩ := k
    have hc := hr
    rcases hr.2 with ⟨e1, e2⟩ | ⟨b, c, cur, e1, _⟩
    · exact .inl ⟨e1, List.eq_nil_of_length_eq_zero e2⟩
    · exact .inr ⟨b, 0, none, c, xs, e1, hr.1, hc.cells (by rw [e1]; rfl), h4, h5, h3⟩
  | _ => exact hs.elim

end Go.E

namespace Go.E
open Go

def rowTy (P : Program) (t : Nat) : Option (Nat × Nat × Nat) :=
  match P.underlying t with
  | some (.slice e) => (match P.info? e with
    | some i => (match i.zero with
      | some z => if z.cells.size = i.size ∧ 0 < i.size then some (e, i.size, i.bytes) else none
      | none => none)
    | none => none)
  | _ => none
theorem rowTy_spec {P : Program} {t e s y : Nat} (h : rowTy P t = some (e, s, y)) : ∃ i z, P.underlying t = some (.slice e) ∧ P.info? e = some i ∧ i.zero = some z ∧ z.cells.size = s ∧ 0 < s ∧ i.size = s ∧ i.bytes = y := by
  unfold rowTy at h
  split at h
  · rename_i e' hu
    split at h
    · rename_i i hi
      split at h
      · rename_i z hz
        split at h
        · rename_i hc
          simp at h; obtain ⟨rfl, rfl, rfl⟩ := h
          exact ⟨i, z, hu, hi, hz, hc.1, hc.2, rfl, rfl⟩
        · cases h
      · cases h
    · cases h
  · cases h

structure Grown (w w' : World) (v v' : Value) : Prop where
  size : w.heap.size ≤ w'.heap.size
  os : w'.os = w.os
  tape : w'.tape = w.tape
  output : w'.output = w.output
  heap : ∀ b, b < w.heap.size → v.ownBlock ≠ some b → w'.heap[b]? = w.heap[b]?
  block : ∀ b, v'.ownBlock = some b → v.ownBlock = some b ∨ w.heap.size ≤ b

theorem append_run {P : Program} {t ty e s y : Nat} (hT : rowTy P t = some (e, s, y)) {w : World} {v u : Value} {n m : Nat} {xs news : List Value} (hown : w.ownsRow 0 e s v n xs)
    (hu : (u = .slice none 0 0 ∧ m = 0 ∧ news = []) ∨ ∃ b o p c, u = .slice (some ⟨b, o, p⟩) m c ∧ news.length = m * s ∧ (∀ j v, news[j]? = some v → w.cell? ((⟨b, o, p⟩ : Addr).add j) = some v))
    (h1 : ∀ v ∈ news, v.oneCell' = true) (hm : n + m ≤ maxLen) (hb : (n + m) * y ≤ 140737488355328) :
    ∃ v' w', (Builtin.append_ #[t, t] ty #[v, u]).run P w = .ok v' w' ∧ w'.ownsRow 0 e s v' (n + m) (xs ++ news) ∧ Grown w w' v v' := by
  obtain ⟨i, z, g1, g2, g3, g4, g5, g6, g7⟩ := rowTy_spec hT
  rcases hu with ⟨rfl, rfl, rfl⟩ | ⟨b, o, p, c, rfl, hl, hnews⟩
  · refine ⟨v, w, run_append_owned_none w 0 t ty e i s g1 g2 v n xs hown, by simpa using hown, ⟨Nat.le_refl _, rfl, rfl, rfl, fun _ _ _ => rfl, fun b hb => .inl hb⟩⟩
  · obtain ⟨v', w', hrun, ho, hg, _⟩ := run_append_own (P := P) w 0 t ty e i z s y g1 g2 g3 g6 g7 g4 g5 v n xs hown ⟨b, o, p⟩ m c news hl hnews h1 hm hb (Nat.zero_le _)
    refine ⟨v', w', hrun, ho, ⟨hg.size, hg.os, hg.tape, hg.output, fun k hk hne => hg.block k hk (fun e => hne e.symm), fun k hk => ?_⟩⟩
    rcases hown.2 with ⟨rfl, rfl⟩ | ⟨g, cap, cur, rfl, hbg, hgc, hnc, hcm, hcs, htake⟩
    · have hx : xs = [] := List.eq_nil_of_length_eq_zero (by simpa using hown.1)
      subst hx
      obtain ⟨v2, w2, hrun2, ho2, _⟩ := run_append_own (P := P) w w.heap.size t ty e i z s y g1 g2 g3 g6 g7 g4 g5 (.slice none 0 0) 0 [] (World.ownsRow_nil w _ e s) ⟨b, o, p⟩ m c news hl hnews h1 hm hb (Nat.le_refl _)
      rw [hrun] at hrun2
      simp at hrun2
      obtain ⟨rfl, rfl⟩ := hrun2
      exact .inr (ho2.lt k hk).1
    · subst g6
      have h63 : n + m ≤ 9223372036854775807 := by simp only [maxLen] at hm; omega
      by_cases hroom : n + m ≤ cap
      · have hfit : n * i.size + news.length ≤ cur.size := by rw [hl, hcs, ← Nat.add_mul]; exact Nat.mul_le_mul_right _ hroom
        have hr := run_append_room (P := P) w t ty e i g1 g2 g n cap cur hgc ⟨b, o, p⟩ m c news hl hnews h1 hroom hfit
        rw [hrun] at hr
        simp at hr
        obtain ⟨rfl, _⟩ := hr
        exact .inl hk
      · have holds : ∀ j u, xs[j]? = some u → w.cell? ((⟨g, 0, none⟩ : Addr).add j) = some u := hown.cells (g := g) rfl
        have hr := run_append_grow (P := P) w t ty e i z g1 g2 g3 ⟨g, 0, none⟩ n cap xs hown.1 holds ⟨b, o, p⟩ m c news hl hnews (by omega) (by omega) (growslice_fits (by omega) (by rw [g7]; exact hb))
        rw [hrun] at hr
        simp at hr
        obtain ⟨rfl, _⟩ := hr
        simp [Value.ownBlock] at hk
        exact .inr (by omega)

theorem DReps.append {m : Mem} : ∀ {xs ys : List D} {us vs : List Value}, DReps m xs us → DReps m ys vs → DReps m (xs ++ ys) (us ++ vs)
  | [], _, _, _, h, k => by rw [show _ = [] from h]; exact k
  | _ :: xs, _, _, _, ⟨u, ut, e, h1, h2⟩, k => by rw [e]; exact ⟨u, _, rfl, h1, DReps.append h2 k⟩

section
variable {P : Program} {W0 : World} {L0 L : Lay} {env : List AV} {S : Sto} {w : World} {a : Act}

def Mk (P : Program) (W0 : World) (L0 : Lay) (a : Act) (w : World) (o : Oper) (env : List AV) (S : Sto) (x : AV) : Prop :=
  ∃ v w' L', (execOp a.eval o).run P w = .ok (.value v) w' ∧ Rel W0 L0 L' env S w' a ∧ ARep L' w' x v

def tagOf (k : Nat) : AV → Nat | .own g _ _ _ => g | _ => k
def AV.isApp (e s : Nat) : AV → Prop | .own g e' s' _ => g ≠ 0 ∧ e' = e ∧ s' = s | .d (.v (.slice none 0 0)) => True | _ => False

theorem mk_append {dst type pos after guard} (hr : Rel W0 L0 L env S w a) {k : Nat} (hk : k ≠ 0) (x y : Operand) {t e s b : Nat} (hT : rowTy P t = some (e, s, b)) (hx : (aval env x).isApp e s) (hy : (aval env y).isSl s)
    (hm : ((aval env x).rows.length + (aval env y).rows.length) * b ≤ 140737488355328) (hm2 : (aval env x).rows.length + (aval env y).rows.length ≤ maxLen) :
    Mk P W0 L0 a w ⟨dst, .call ⟨.builtin .append, #[x, y], #[t, t]⟩, type, pos, after, guard⟩ (env.map (AV.kill (tagOf k (aval env x)))) (S.kill (tagOf k (aval env x)))
      (.own (tagOf k (aval env x)) e s ((aval env x).rows ++ (aval env y).rows)) := by
  have rx := aval_rep hr.slots x
  have ry := src_rep hy (aval_rep hr.slots y)
  generalize aval env x = p at *
  generalize aval env y = q at *
  have run : ∀ v' w', (Builtin.append_ #[t, t] type #[a.eval x, a.eval y]).run P w = .ok v' w' → (execOp a.eval ⟨dst, .call ⟨.builtin .append, #[x, y], #[t, t]⟩, type, pos, after, guard⟩).run P w = .ok (.value v') w' := by
    intro v' w' h
    simp [execOp, resolve, invoke, builtin, h]
  obtain ⟨news, hl, hn1, hnd, hsrc, hlen⟩ : ∃ news : List Value, news.length = q.rows.length * s ∧ (∀ v ∈ news, v.oneCell' = true) ∧ DReps (L.mem w) q.rows.flatten news ∧
      ((a.eval y = .slice none 0 0 ∧ q.rows.length = 0 ∧ news = []) ∨ ∃ b o p c, a.eval y = .slice (some ⟨b, o, p⟩) q.rows.length c ∧ news.length = q.rows.length * s ∧ (∀ j v, news[j]? = some v → w.cell? ((⟨b, o, p⟩ : Addr).add j) = some v)) ∧
      ∀ r ∈ q.rows, r.length = s := by
    rcases ry with ⟨h1, h2⟩ | ⟨b, o, p, c, us, h1, h2, h3, h4, h5, h6⟩
    · exact ⟨[], by simp [h2], (fun v hv => by cases hv), by rw [h2]; rfl, .inl ⟨h1, by simp [h2], rfl⟩, by rw [h2]; intro r hr; cases hr⟩
    · exact ⟨us, h2, h4, h5, .inr ⟨b, o, p, c, h1, h2, h3⟩, h6⟩
  have fin : ∀ (g : Nat) (rows : List (List D)) (xs : List Value), g ≠ 0 → w.ownsRow 0 e s (a.eval x) rows.length xs → (∀ b, (a.eval x).ownBlock = some b → L.own b = some g) → (∀ r ∈ rows, r.length = s) → (∀ v ∈ xs, v.oneCell' = true) → DReps (L.mem w) rows.flatten xs →
      (rows.length + q.rows.length) * b ≤ 140737488355328 → rows.length + q.rows.length ≤ maxLen →
      Mk P W0 L0 a w ⟨dst, .call ⟨.builtin .append, #[x, y], #[t, t]⟩, type, pos, after, guard⟩ (env.map (AV.kill g)) (S.kill g) (.own g e s (rows ++ q.rows)) := by
    intro g rows xs hg hown hbl hls hone hd hb1 hb2
    obtain ⟨v', w', hrun, ho, hgr⟩ := append_run (ty := type) hT hown hsrc hn1 hb2 hb1
    obtain ⟨L', h1, h2⟩ := rel_row (e := e) (s := s) (rows := rows ++ q.rows) (v := v') (xs := xs ++ news) (hr.kill g) hg (mens_kill g env) (Sto.mens_killed g S) (Sto.kill_none g S) hgr.size hgr.os hgr.tape hgr.output
      (fun b hb hne => hgr.heap b hb (fun e => hne (hbl b e))) (fun b hb => (hgr.block b hb).imp (fun h => hbl b h) id) (by rw [List.length_append]; exact ho)
      (fun r hr => by rcases List.mem_append.1 hr with h | h; exact hls r h; exact hlen r h) (fun v hv => by rcases List.mem_append.1 hv with h | h; exact hone v h; exact hn1 v h)
      (by rw [List.flatten_append]; exact hd.append hnd)
    exact ⟨v', w', L', run v' w' hrun, h1, h2⟩
  cases p with
  | own g e' s' rows =>
    obtain ⟨hg, rfl, rfl⟩ := hx
    obtain ⟨_, xs, h1, h2, h3, h4, h5⟩ := rx
    exact fin g rows xs hg h1 h2 h3 h4 h5 hm hm2
  | d z => cases z with
    | v z =>
      have hz : z = .slice none 0 0 := by unfold AV.isApp at hx; split at hx <;> simp_all
      subst hz
      have e0 : a.eval x = .slice none 0 0 := rx
      exact fin k [] [] hk (by rw [e0]; exact World.ownsRow_nil w 0 e s) (by rw [e0]; intro b hb; cases hb) (fun r hr => by cases hr) (fun r hr => by cases hr) rfl hm hm2
    | _ => exact hx.elim
  | _ => exact hx.elim

theorem mk_box {dst type pos after guard} (hr : Rel W0 L0 L env S w a) {k : Nat} (hk : k ≠ 0) (hkb : k < 1000000000) (t : Nat) (x : Operand) {cs : List AV} (hc : (aval env x).cells? = some cs) (hcm : AV.mens k cs = false) :
    Mk P W0 L0 a w ⟨dst, .box t x, type, pos, after, guard⟩ (env.map (AV.kill k)) ((S.kill k).ins k cs) (.ref k 0) := by
  have h := AV.cells_rep hc (aval_rep hr.slots x)
  obtain ⟨L', h1, h2⟩ := rel_obj (hr.kill k) hk hkb (mens_kill k env) (Sto.mens_killed k S) (Sto.kill_none k S) t h hcm
  exact ⟨_, _, L', by simp [execOp, Instr.box, newVar, newRow], h1, h2⟩

def zcells (P : Program) (t : Nat) : Option (List D) :=
  match P.info? t with
  | some i => (match i.zero with
    | some (.agg cs) => some (cs.toList.map .v)
    | some z => some [.v z]
    | none => none)
  | none => none
theorem zcells_spec {t : Nat} {cs : List D} (h : zcells P t = some cs) : ∃ z, (∀ w', (zeroValue t).run P w' = .ok z w') ∧ cs = z.cells.toList.map .v := by
  unfold zcells at h
  split at h
  · rename_i i hi
    split at h
    · rename_i cs' hz
      simp at h; subst h
      exact ⟨.agg cs', fun w' => by simp [zeroValue, run_typeInfo' hi, hz], rfl⟩
    · rename_i z hne hz
      simp at h; subst h
      refine ⟨z, fun w' => by simp [zeroValue, run_typeInfo' hi, hz], ?_⟩
      cases z <;> first | rfl | (exact (hne _ rfl).elim)
    · cases h
  · cases h
theorem dreps_v {m : Mem} : ∀ l : List Value, DReps m (l.map .v) l
  | [] => rfl
  | x :: l => ⟨x, l, rfl, rfl, dreps_v l⟩

theorem mens_d (k : Nat) : ∀ cs : List D, AV.mens k (cs.map .d) = false
  | [] => rfl
  | _ :: cs => by simp [AV.mens, AV.men, mens_d k cs]

theorem mk_alloc {dst type pos after guard} (hr : Rel W0 L0 L env S w a) {k : Nat} (hk : k ≠ 0) (hkb : k < 1000000000) (t : Nat) {cs : List D} (hc : zcells P t = some cs) :
    Mk P W0 L0 a w ⟨dst, .alloc t, type, pos, after, guard⟩ (env.map (AV.kill k)) ((S.kill k).ins k (cs.map .d)) (.ref k 0) := by
  obtain ⟨z, hz, e⟩ := zcells_spec hc
  have h : AReps L w (cs.map .d) z.cells.toList := areps_d (by rw [e]; exact dreps_v _)
  obtain ⟨L', h1, h2⟩ := rel_obj (hr.kill k) hk hkb (mens_kill k env) (Sto.mens_killed k S) (Sto.kill_none k S) t h (mens_d k cs)
  refine ⟨_, _, L', ?_, h1, h2⟩
  simp [execOp, Instr.alloc, newVar, newRow, hz]

end
end Go.E

namespace Go.E
open Go

def setR {α : Type} (cells : List α) (off : Nat) : List α → List α
  | [] => cells
  | v :: r => setR (cells.set off v) (off + 1) r
theorem setR_length {α : Type} : ∀ (vs cells : List α) (off : Nat), (setR cells off vs).length = cells.length
  | [], _, _ => rfl
  | v :: vs, cells, off => by rw [setR, setR_length vs]; simp
theorem setR_get {α : Type} : ∀ (vs cells : List α) (off j : Nat), off + vs.length ≤ cells.length → (setR cells off vs)[j]? = if off ≤ j ∧ j < off + vs.length then vs[j - off]? else cells[j]?
  | [], cells, off, j, _ => by
    simp only [setR, List.length_nil, Nat.add_zero]
    rw [if_neg (by omega)]
  | v :: vs, cells, off, j, h => by
    simp only [List.length_cons] at h ⊢
    rw [setR, setR_get vs (cells.set off v) (off + 1) j (by simp; omega)]
    by_cases h1 : off = j
    · subst h1
      rw [if_neg (by omega), if_pos (by omega), Nat.sub_self, List.getElem?_set_self (by omega)]
      rfl
    · by_cases h2 : off + 1 ≤ j ∧ j < off + 1 + vs.length
      · rw [if_pos h2, if_pos (by omega), show j - off = (j - (off + 1)) + 1 by omega, List.getElem?_cons_succ]
      · rw [if_neg h2, if_neg (by omega), List.getElem?_set_ne h1]
theorem setA_eq : ∀ (vs : List Value) (k off : Nat) (cells : Array Value),
    ((vs.zipIdx k).foldl (fun cs x => cs.setIfInBounds (off + x.2) x.1) cells).toList = setR cells.toList (off + k) vs
  | [], _, _, _ => rfl
  | v :: vs, k, off, cells => by
    rw [List.zipIdx_cons, List.foldl_cons, setA_eq vs (k + 1) off, setR, Nat.add_assoc]
    simp
theorem areps_setR {L : Lay} {w : World} : ∀ {xs cells : List AV} {us cus : List Value} {off : Nat}, AReps L w xs us → AReps L w cells cus → AReps L w (setR cells off xs) (setR cus off us)
  | [], _, _, _, _, h, k => by rw [show _ = [] from h]; exact k
  | x :: xs, cells, _, cus, off, ⟨u, ut, e, h1, h2⟩, k => by
    rw [e]
    show AReps L w (setR (cells.set off x) (off + 1) xs) (setR (cus.set off u) (off + 1) ut)
    exact areps_setR h2 (k.set off h1)

section
variable {P : Program} {X : List Nat} {L : Lay} {w : World} {ρ : Operand → Value} {A : Operand → AV}

def placeOf (P : Program) (t : Nat) (i : Nat) : Option (Nat × Nat) :=
  match P.underlying t with
  | some (.struct fs) => (match fs[i]? with | some f => (P.info? f.type).map fun x => (f.offset, x.size) | none => none)
  | some (.array _ e) => (P.info? e).map fun x => (i * x.size, x.size)
  | _ => none
def placed (P : Program) (t : Nat) : Bool :=
  match P.underlying t with
  | some (.struct fs) => fs.toList.all fun f => (P.info? f.type).isSome
  | some (.array _ e) => (P.info? e).isSome
  | _ => false

def fillV (P : Program) (t : Nat) (A : Operand → AV) : List (Nat × Operand) → List AV → List AV
  | [], cells => cells
  | (i, x) :: r, cells => fillV P t A r (setR cells ((placeOf P t i).getD (0, 0)).1 (((A x).cells?).getD []))
def fillS (P : Program) (t : Nat) (A : Operand → AV) (n : Nat) : List (Nat × Operand) → Prop
  | [] => True
  | (i, x) :: r => (match placeOf P t i, (A x).cells? with | some (off, s), some cs => cs.length = s ∧ off + s ≤ n | _, _ => False) ∧ fillS P t A n r

theorem fill_rep (hA : ∀ x, ARep L w (A x) (ρ x)) (t : Nat) (place : Nat → Option (Nat × Nat)) (hp : ∀ i, placeOf P t i ≠ none → place i = placeOf P t i) : ∀ (parts : List (Nat × Operand)) (cells : List AV) (us : Array Value), AReps L w cells us.toList → fillS P t A cells.length parts →
    ∃ us', Instr.fill place us (parts.map fun x => (x.1, ρ x.2)) = some us' ∧ AReps L w (fillV P t A parts cells) us'.toList
  | [], cells, us, h, _ => ⟨us, rfl, h⟩
  | (i, x) :: r, cells, us, h, ⟨h1, h2⟩ => by
    split at h1
    case h_2 => exact h1.elim
    rename_i off s cs hpl hcs
    have hpi := hp i (by rw [hpl]; simp)
    have hc := AV.cells_rep hcs (hA x)
    have hcl := hc.length
    have hul := h.length
    simp only [Array.length_toList] at hcl hul
    simp only [List.map_cons, Instr.fill, hpi, hpl]
    rw [if_neg (by simp; omega)]
    have hset := areps_setR (off := off) hc h
    have e := setA_eq (ρ x).cells.toList 0 off us
    rw [Nat.add_zero] at e
    have e2 : (Array.foldl (fun cs x => cs.setIfInBounds (off + x.2) x.1) us (ρ x).cells.zipIdx).toList = setR us.toList off (ρ x).cells.toList := by
      rw [← e, ← Array.foldl_toList]; simp
    obtain ⟨us', g1, g2⟩ := fill_rep hA t place hp r (setR cells off cs) (Array.foldl (fun cs x => cs.setIfInBounds (off + x.2) x.1) us (ρ x).cells.zipIdx) (by rw [e2]; exact hset) (by rw [setR_length]; exact h2)
    refine ⟨us', g1, ?_⟩
    simp only [fillV, hpl, hcs, Option.getD_some]
    exact g2

theorem run_mapM_places (fs : List Field) (w' : World) (h : fs.all (fun f => (P.info? f.type).isSome) = true) :
    (fs.mapM fun f => Prod.mk f.offset <$> sizeOf f.type : Sem (List (Nat × Nat))).run P w' = .ok (fs.map fun f => (f.offset, ((P.info? f.type).map (·.size)).getD 0)) w' := by
  induction fs with
  | nil => simp
  | cons f fs ih =>
    simp only [List.all_cons, Bool.and_eq_true] at h
    obtain ⟨i, hi⟩ := Option.isSome_iff_exists.1 h.1
    simp [List.mapM_cons, run_sizeOf' hi, ih h.2, hi]

theorem yv_build {dst type pos after guard} (t : Nat) (parts : Array (Nat × Operand)) (hA : ∀ x, ARep L w (A x) (ρ x)) {zc : List D} (hz : zcells P t = some zc) (hp : placed P t = true) (hs : fillS P t A zc.length parts.toList) :
    Yv P X L w ρ ⟨dst, .build t parts, type, pos, after, guard⟩ (AV.mkAgg (fillV P t A parts.toList (zc.map .d))) := by
  obtain ⟨z, hz1, hz2⟩ := zcells_spec hz
  have hrep : AReps L w (zc.map .d) z.cells.toList := areps_d (by rw [hz2]; exact dreps_v _)
  unfold placed at hp
  split at hp
  · rename_i fs hu
    obtain ⟨us, g1, g2⟩ := fill_rep (P := P) hA t (fun i => (fs.toList.map fun f => (f.offset, ((P.info? f.type).map (·.size)).getD 0)).toArray[i]?) (fun i hi => by
      unfold placeOf at hi ⊢
      simp only [hu] at hi ⊢
      cases hf : fs[i]? with
      | none => simp [hf] at hi
      | some f =>
        simp only [hf] at hi ⊢
        cases hi2 : P.info? f.type with
        | none => simp [hi2] at hi
        | some inf =>
          have hf' : fs.toList[i]? = some f := by simpa using hf
          simp [hf', hi2]) parts.toList (zc.map .d) z.cells hrep (by simpa using hs)
    refine .of_all (AV.mkAgg_rep g2) fun w' => ?_
    have hm : (fs.mapM fun f => do pure (f.offset, ← sizeOf f.type) : Sem (Array (Nat × Nat))).run P w' = .ok (fs.toList.map fun f => (f.offset, ((P.info? f.type).map (·.size)).getD 0)).toArray w' := by
      rw [Array.mapM_eq_mapM_toList]
      simp [run_mapM_places fs.toList w' hp]
    simp only [execOp, Instr.build, Sem.run_bind, hz1, Result.andThen_ok, run_underlying' hu, hm]
    have e : (parts.map fun x => (x.1, ρ x.2)).toList = parts.toList.map fun x => (x.1, ρ x.2) := by simp
    simp only [e] at *
    rw [g1]
    simp
  · rename_i n e hu
    obtain ⟨i, hi⟩ := Option.isSome_iff_exists.1 hp
    obtain ⟨us, g1, g2⟩ := fill_rep (P := P) hA t (fun j => some (j * i.size, i.size)) (fun j _ => by simp [placeOf, hu, hi]) parts.toList (zc.map .d) z.cells hrep (by simpa using hs)
    refine .of_all (AV.mkAgg_rep g2) fun w' => ?_
    have e : (parts.map fun x => (x.1, ρ x.2)).toList = parts.toList.map fun x => (x.1, ρ x.2) := by simp
    simp only [execOp, Instr.build, Sem.run_bind, hz1, Result.andThen_ok, run_underlying' hu, run_sizeOf' hi]
    simp only [e] at *
    rw [g1]
    simp
  · cases hp

end
end Go.E

namespace Go.E
open Go

theorem setR_eq {α : Type} (cells : List α) (off : Nat) (vs : List α) (h : off + vs.length ≤ cells.length) : cells.take off ++ vs ++ cells.drop (off + vs.length) = setR cells off vs := by
  apply List.ext_getElem?
  intro j
  rw [setR_get vs cells off j h]
  by_cases h1 : j < off
  · rw [if_neg (by omega), List.append_assoc, List.getElem?_append_left (by simp; omega), List.getElem?_take, if_pos h1]
  · by_cases h2 : j < off + vs.length
    · rw [if_pos (by omega), List.append_assoc, List.getElem?_append_right (by simp; omega), List.length_take, Nat.min_eq_left (by omega), List.getElem?_append_left (by omega)]
    · rw [if_neg (by omega), List.getElem?_append_right (by simp; omega), List.length_append, List.length_take, Nat.min_eq_left (by omega), List.getElem?_drop]
      congr 1; omega

theorem flatten_set {s : Nat} : ∀ {rows : List (List D)} {i : Nat} {cs : List D}, (∀ r ∈ rows, r.length = s) → cs.length = s → i < rows.length → (rows.set i cs).flatten = setR rows.flatten (i * s) cs
  | [], i, _, _, _, h => by simp at h
  | r :: rows, 0, cs, hl, hc, _ => by
    have hr := hl r (by simp)
    rw [List.set_cons_zero, List.flatten_cons, Nat.zero_mul, List.flatten_cons, ← setR_eq _ _ _ (by rw [List.length_append, hc, hr]; omega)]
    simp [hc, ← hr]
  | r :: rows, i + 1, cs, hl, hc, hi => by
    have hr := hl r (by simp)
    have ih := flatten_set (rows := rows) (i := i) (cs := cs) (fun r hr => hl r (List.mem_cons_of_mem _ hr)) hc (by simpa using hi)
    have hf := flatten_len (rows := rows) (fun r hr => hl r (List.mem_cons_of_mem _ hr))
    have hi' : i * s + s ≤ rows.flatten.length := by
      rw [hf]
      have := Nat.mul_le_mul_right s (show i + 1 ≤ rows.length by simp only [List.length_cons] at hi; omega)
      rw [Nat.add_mul, Nat.one_mul] at this; exact this
    rw [List.set_cons_succ, List.flatten_cons, ih, List.flatten_cons]
    apply List.ext_getElem?
    intro j
    rw [setR_get _ _ _ _ (by rw [List.length_append, hr, Nat.add_mul, Nat.one_mul, hc]; omega)]
    by_cases hj : j < r.length
    · rw [List.getElem?_append_left hj, if_neg (by rw [Nat.add_mul, Nat.one_mul]; omega), List.getElem?_append_left hj]
    · rw [List.getElem?_append_right (by omega), setR_get _ _ _ _ (by omega), List.getElem?_append_right (by omega), Nat.add_mul, Nat.one_mul]
      by_cases h1 : i * s ≤ j - r.length ∧ j - r.length < i * s + cs.length
      · rw [if_pos h1, if_pos (by omega)]
        congr 1; omega
      · rw [if_neg h1, if_neg (by omega)]

theorem DReps.set {m : Mem} {ds : List D} {us : List Value} (h : DReps m ds us) (i : Nat) {d : D} {u : Value} (hd : DRep m d u) : DReps m (ds.set i d) (us.set i u) :=
  DReps.of_get (by simp [h.length]) fun j e x h1 h2 => by
    by_cases hij : i = j
    · subst hij
      rw [List.getElem?_set_self'] at h1 h2
      cases hj : ds[i]? with
      | none => simp [hj] at h1
      | some d' =>
        obtain ⟨u', hu', _⟩ := h.get i d' hj
        simp [hj] at h1; simp [hu'] at h2; subst h1; subst h2; exact hd
    · rw [List.getElem?_set_ne hij] at h1 h2
      obtain ⟨u', hu', hr⟩ := h.get j e h1
      rw [hu'] at h2; simp at h2; subst h2; exact hr
theorem dreps_setR {m : Mem} : ∀ {xs cells : List D} {us cus : List Value} {off : Nat}, DReps m xs us → DReps m cells cus → DReps m (setR cells off xs) (setR cus off us)
  | [], _, _, _, _, h, k => by rw [show _ = [] from h]; exact k
  | x :: xs, cells, _, cus, off, ⟨u, ut, e, h1, h2⟩, k => by
    rw [e]
    show DReps m (setR (cells.set off x) (off + 1) xs) (setR (cus.set off u) (off + 1) ut)
    exact dreps_setR h2 (k.set off h1)
theorem mem_setR {α : Type} {P : α → Prop} : ∀ {vs cells : List α} {off : Nat}, (∀ x ∈ vs, P x) → (∀ x ∈ cells, P x) → ∀ x ∈ setR cells off vs, P x
  | [], _, _, _, h => h
  | v :: vs, cells, off, hv, hc => by
    rw [setR]
    exact mem_setR (fun x hx => hv x (List.mem_cons_of_mem _ hx)) (fun x hx => by
      rcases List.mem_or_eq_of_mem_set hx with h | h
      · exact hc x h
      · rw [h]; exact hv v (by simp))

def AV.dcells : AV → Option (List D) | .d y => y.cells? | _ => none
theorem AV.dcells_rep {L : Lay} {w : World} {x : AV} {cs : List D} {u : Value} (h : x.dcells = some cs) (k : ARep L w x u) : DReps (L.mem w) cs u.cells.toList := by
  cases x <;> first | exact D.cells_rep h k | cases h

def bsV (A : Operand → AV) : List (Nat × Operand) → List (List D) → List (List D)
  | [], rows => rows
  | (i, x) :: r, rows => bsV A r (rows.set i ((A x).dcells.getD []))
def bsS (A : Operand → AV) (s n : Nat) : List (Nat × Operand) → Prop
  | [] => True
  | (i, x) :: r => (match (A x).dcells with | some cs => cs.length = s ∧ (cs.all D.one) = true ∧ i < n | none => False) ∧ bsS A s n r

theorem one_all {m : Mem} : ∀ {cs : List D} {us : List Value}, cs.all D.one = true → DReps m cs us → ∀ x ∈ us, x.oneCell' = true
  | [], _, _, h, x, hx => by rw [show _ = [] from h] at hx; cases hx
  | c :: cs, _, ha, ⟨u, ut, e, h1, h2⟩, x, hx => by
    simp only [List.all_cons, Bool.and_eq_true] at ha
    rw [e] at hx
    rcases List.mem_cons.1 hx with rfl | hx
    · exact D.one_rep ha.1 h1
    · exact one_all ha.2 h2 x hx

section
variable {P : Program} {W0 : World} {L0 L : Lay} {env : List AV} {S : Sto} {w : World} {a : Act} {ρ : Operand → Value} {A : Operand → AV}

theorem bs_rep (hA : ∀ x, ARep L w (A x) (ρ x)) (s : Nat) : ∀ (parts : List (Nat × Operand)) (rows : List (List D)) (us : Array Value), (∀ r ∈ rows, r.length = s) → (∀ x ∈ us.toList, x.oneCell' = true) → DReps (L.mem w) rows.flatten us.toList → bsS A s rows.length parts →
    ∃ us', Instr.fill (fun i => some (i * s, s)) us (parts.map fun x => (x.1, ρ x.2)) = some us' ∧ us'.size = us.size ∧ (bsV A parts rows).length = rows.length ∧ (∀ r ∈ bsV A parts rows, r.length = s) ∧ (∀ x ∈ us'.toList, x.oneCell' = true) ∧ DReps (L.mem w) (bsV A parts rows).flatten us'.toList
  | [], rows, us, hl, h1, h, _ => ⟨us, rfl, rfl, rfl, hl, h1, h⟩
  | (i, x) :: r, rows, us, hl, h1, h, ⟨h2, h3⟩ => by
    split at h2
    case h_2 => exact h2.elim
    rename_i cs hcs
    obtain ⟨g1, g2, g3⟩ := h2
    have hc := AV.dcells_rep hcs (hA x)
    have hcl := hc.length
    have hul := h.length
    simp only [Array.length_toList] at hcl hul
    have hi' : i * s + s ≤ rows.flatten.length := by
      rw [flatten_len hl]
      have := Nat.mul_le_mul_right s (show i + 1 ≤ rows.length from g3)
      rw [Nat.add_mul, Nat.one_mul] at this; exact this
    simp only [List.map_cons, Instr.fill]
    rw [if_neg (by simp; omega)]
    have e := setA_eq (ρ x).cells.toList 0 (i * s) us
    rw [Nat.add_zero] at e
    have e2 : (Array.foldl (fun cs y => cs.setIfInBounds (i * s + y.2) y.1) us (ρ x).cells.zipIdx).toList = setR us.toList (i * s) (ρ x).cells.toList := by
      rw [← e, ← Array.foldl_toList]; simp
    have hset := dreps_setR (off := i * s) hc h
    rw [← flatten_set hl g1 g3] at hset
    obtain ⟨us', k1, k2, k3, k4, k5, k6⟩ := bs_rep hA s r (rows.set i cs) (Array.foldl (fun cs y => cs.setIfInBounds (i * s + y.2) y.1) us (ρ x).cells.zipIdx)
      (fun r hr => by rcases List.mem_or_eq_of_mem_set hr with h | h; exact hl r h; rw [h]; exact g1)
      (by rw [e2]; exact mem_setR (one_all g2 hc) h1) (by rw [e2]; exact hset) (by simpa using h3)
    simp only [bsV, hcs, Option.getD_some]
    refine ⟨us', k1, ?_, by simpa using k3, k4, k5, k6⟩
    rw [k2, ← Array.length_toList, e2, setR_length, Array.length_toList]

theorem zrows_rep {m : Mem} {z : Array Value} {s : Nat} (hz : z.size = s) (hs : 0 < s) (n : Nat) : DReps m (List.replicate n (z.toList.map D.v)).flatten ((Array.range (n * s)).map (z[· % z.size]!)).toList := by
  have hl : ∀ r ∈ List.replicate n (z.toList.map D.v), r.length = s := fun r hr => by rw [List.eq_of_mem_replicate hr]; simpa using hz
  refine DReps.of_get (by rw [flatten_len hl]; simp) fun j d u h1 h2 => ?_
  have hj : j < n * s := by have := (List.getElem?_eq_some_iff.1 h2).1; simpa using this
  have hd : j / s < n := Nat.div_lt_of_lt_mul (by rw [Nat.mul_comm]; exact hj)
  have hm : j % s < s := Nat.mod_lt j hs
  have e := flat_get hl (j / s) (j % s) (z.toList.map D.v) (by simp [hd]) hm
  rw [show j / s * s + j % s = j by rw [Nat.mul_comm]; exact Nat.div_add_mod j s] at e
  rw [h1] at e
  simp [hj] at h2
  subst h2
  have hzi : z[j % s]? = some (z[j % s]'(by omega)) := Array.getElem?_eq_getElem (by omega)
  simp [hzi] at e
  subst e
  subst hz
  show _ = _
  rw [getElem!_pos z _ hm]

theorem mk_buildSliceA {dst type pos after guard} (hr : Rel W0 L0 L env S w a) (A : Operand → AV) (hA : ∀ x, ARep L w (A x) (a.eval x)) {k : Nat} (hk : k ≠ 0) (t n : Nat) (parts : Array (Nat × Operand)) {e s b : Nat} {zc : List D} (hT : rowTy P t = some (e, s, b)) (hz : zcells P e = some zc) (h1z : zc.all D.one = true)
    (hn : n * s ≤ 16777216) (hs : bsS A s n parts.toList) :
    Mk P W0 L0 a w ⟨dst, .buildSlice t n parts, type, pos, after, guard⟩ (env.map (AV.kill k)) (S.kill k) (.own k e s (bsV A parts.toList (List.replicate n zc))) := by
  obtain ⟨i, z, g1, g2, g3, g4, g5, g6, g7⟩ := rowTy_spec hT
  obtain ⟨z', hz1, hz2⟩ := zcells_spec hz
  have hzz : z' = z := by
    have h1 := hz1 w
    have h2 : (zeroValue e).run P w = .ok z w := by simp [zeroValue, run_typeInfo' g2, g3]
    rw [h2] at h1; simp at h1; exact h1.symm
  subst hzz
  have hl : ∀ r ∈ List.replicate n zc, r.length = s := fun r hr => by rw [List.eq_of_mem_replicate hr, hz2]; simpa using g4
  have hrep : DReps (L.mem w) (List.replicate n zc).flatten ((Array.range (n * s)).map (z'.cells[· % z'.cells.size]!)).toList := by rw [hz2]; exact zrows_rep g4 g5 n
  have hone : ∀ x ∈ ((Array.range (n * s)).map (z'.cells[· % z'.cells.size]!)).toList, x.oneCell' = true := by
    refine one_all ?_ hrep
    rw [List.all_flatten]
    simp only [List.all_eq_true]
    intro x hx
    rw [List.eq_of_mem_replicate hx]
    simpa using h1z
  obtain ⟨us, k1, k2, k3, k4, k5, k6⟩ := bs_rep hA s parts.toList (List.replicate n zc) _ hl hone hrep (by simpa using hs)
  have hsz : us.size = n * s := by rw [k2]; simp
  have hml : n ≤ maxLen := by
    have := Nat.le_trans (Nat.le_mul_of_pos_right n g5) hn
    simp only [maxLen]; omega
  have hown := World.ownsRow_lit (base := 0) (e := e) (size := s) w us n (Nat.zero_le _) hml hsz
  obtain ⟨L', h1, h2⟩ := rel_row (w' := w.alloc (.cells us e)) (e := e) (s := s) (rows := bsV A parts.toList (List.replicate n zc)) (v := .slice (some ⟨w.heap.size, 0, none⟩) n n) (xs := us.toList) (hr.kill k) hk (mens_kill k env) (Sto.mens_killed k S) (Sto.kill_none k S)
    (by simp) rfl rfl rfl (fun b hb _ => RowKit.Below.heap_alloc w _ b hb) (fun b hb => by simp [Value.ownBlock] at hb; exact .inr (by omega)) (by rw [k3]; simpa using hown) k4 k5 k6
  refine ⟨_, _, L', ?_, h1, h2⟩
  have hpl : (parts.map fun x => (x.1, a.eval x.2)).toList = parts.toList.map fun x => (x.1, a.eval x.2) := by simp
  have hbig : ¬ (16777216 < n * s) := by omega
  by_cases h0 : n * s = 0
  · have hn0 : n = 0 := by
      rcases Nat.mul_eq_zero.1 h0 with h | h
      · exact h
      · omega
    subst hn0
    have hp : parts = #[] := by
      cases hpl2 : parts.toList with
      | nil => exact Array.toList_inj.1 (by simpa using hpl2)
      | cons x r =>
        rw [hpl2] at hs
        obtain ⟨h, _⟩ := hs
        split at h
        · omega
        · exact h.elim
    subst hp
    simp [Instr.fill] at k1
    subst k1
    simp [execOp, Instr.buildSlice, run_underlying' g1, run_sizeOf' g2, g6, newRow, Instr.fill]
    simp [Array.range_zero']
  · simp [execOp, Instr.buildSlice, run_underlying' g1, run_sizeOf' g2, g6, hbig, h0, hz1, hpl, newRow]
    simp [k1, newRow]
theorem mk_buildSlice {dst type pos after guard} (hr : Rel W0 L0 L env S w a) {k : Nat} (hk : k ≠ 0) (t n : Nat) (parts : Array (Nat × Operand)) {e s b : Nat} {zc : List D} (hT : rowTy P t = some (e, s, b)) (hz : zcells P e = some zc) (h1z : zc.all D.one = true)
    (hn : n * s ≤ 16777216) (hs : bsS (aval env) s n parts.toList) :
    Mk P W0 L0 a w ⟨dst, .buildSlice t n parts, type, pos, after, guard⟩ (env.map (AV.kill k)) (S.kill k) (.own k e s (bsV (aval env) parts.toList (List.replicate n zc))) :=
  mk_buildSliceA hr (aval env) (fun x => aval_rep hr.slots x) hk t n parts hT hz h1z hn hs

end
end Go.E

namespace Go.E
open Go

mutual
def AV.menc (k : Nat) : AV → Bool
  | .own g _ _ _ => g == k
  | .eref g _ _ _ _ _ => g == k
  | .tup xs => AV.mencs k xs
  | .agg xs => AV.mencs k xs
  | .clo _ x y => AV.mencs k x || AV.mencs k y
  | .iface _ x => x.menc k
  | _ => false
def AV.mencs (k : Nat) : List AV → Bool
  | [] => false
  | x :: xs => x.menc k || AV.mencs k xs
end
def Sto.mencs (k : Nat) : Sto → Bool
  | [] => false
  | (_, c) :: r => AV.mencs k c || Sto.mencs k r
theorem Sto.mencs_get {k g : Nat} {cells : List AV} : ∀ {S : Sto}, S.mencs k = false → S.get g = some cells → AV.mencs k cells = false
  | [], _, h => by simp [Sto.get] at h
  | (g', c) :: r, hm, h => by
    simp only [Sto.mencs, Bool.or_eq_false_iff] at hm
    simp only [Sto.get] at h
    split at h
    · simp at h; subst h; exact hm.1
    · exact Sto.mencs_get hm.2 h

mutual
theorem ARep.st {k : Nat} {L : Lay} {w w' : World} (h : Same k L w L w') : ∀ (x : AV) (u : Value), x.menc k = false → ARep L w x u → ARep L w' x u
  | .any, _, _, _ => trivial
  | .d x, u, _, hr => DRep.mono h.mem x u hr
  | .own g _ s rows, u, hm, ⟨e, hr⟩ => ⟨e, OwnRow.same h (by simpa [AV.menc] using hm) hr⟩
  | .eref g _ s rows i off, u, hm, ⟨hr, hi, b, n, c, e1, e2⟩ => ⟨OwnRow.same h (by simpa [AV.menc] using hm) hr, hi, b, n, c, e1, e2⟩
  | .ref g off, u, hm, e => e
  | .tup xs, _, hm, ⟨us, e, k1⟩ => ⟨us, e, AReps.st h xs _ hm k1⟩
  | .agg xs, _, hm, ⟨us, e, k1⟩ => ⟨us, e, AReps.st h xs _ hm k1⟩
  | .clo _ x y, _, hm, ⟨xs, ys, e, k1, k2⟩ => by
    simp only [AV.menc, Bool.or_eq_false_iff] at hm
    exact ⟨xs, ys, e, AReps.st h x _ hm.1 k1, AReps.st h y _ hm.2 k2⟩
  | .iface _ x, _, hm, ⟨y, e, k1⟩ => ⟨y, e, ARep.st h x y hm k1⟩
  | .yld _ _ _ _ _, _, _, e => e
  | .mp _, _, _, e => e
  | .it _, _, _, e => e
  | .bx _ _ _, _, _, e => e
theorem AReps.st {k : Nat} {L : Lay} {w w' : World} (h : Same k L w L w') : ∀ (xs : List AV) (us : List Value), AV.mencs k xs = false → AReps L w xs us → AReps L w' xs us
  | [], _, _, hr => hr
  | x :: xs, _, hm, ⟨u, ut, e, k1, k2⟩ => by
    simp only [AV.mencs, Bool.or_eq_false_iff] at hm
    exact ⟨u, ut, e, ARep.st h x u hm.1 k1, AReps.st h xs ut hm.2 k2⟩
end

def Sto.upd (k : Nat) (c : List AV) : Sto → Sto
  | [] => []
  | (h, x) :: r => if h = k then (h, c) :: r else (h, x) :: Sto.upd k c r
theorem Sto.get_upd {k g : Nat} {c : List AV} : ∀ {S : Sto}, (S.upd k c).get g = if k = g then (S.get g).map (fun _ => c) else S.get g
  | [] => by simp [Sto.upd, Sto.get]
  | (h, x) :: r => by
    unfold Sto.upd
    by_cases hk : h = k
    · rw [if_pos hk]
      simp only [Sto.get]
      subst hk
      by_cases hg : h = g
      · simp [hg]
      · simp [hg]
    · rw [if_neg hk]
      simp only [Sto.get]
      by_cases hg : h = g
      · rw [if_pos hg, if_pos hg, if_neg (fun e => hk (by rw [hg, e]))]
      · rw [if_neg hg, if_neg hg, Sto.get_upd]

def AV.one : AV → Bool
  | .any => false
  | .d x => x.one
  | .tup _ => false
  | .agg _ => false
  | _ => true
theorem AV.one_rep {L : Lay} {w : World} {x : AV} {u : Value} (h : x.one = true) (k : ARep L w x u) : u.oneCell' = true := by
  cases x with
  | any => cases h
  | d y => exact D.one_rep h k
  | own g e s rows =>
    obtain ⟨_, xs, hr, _⟩ := k
    rcases hr.2 with ⟨e, _⟩ | ⟨_, _, _, e, _⟩ <;> rw [e] <;> rfl
  | eref g e s rows i off => obtain ⟨_, _, b, n, c, _, e⟩ := k; rw [e]; rfl
  | ref g off => rw [show u = _ from k.1]; rfl
  | yld g ps as bd N => obtain ⟨r, _, e, _⟩ := k; rw [e]; rfl
  | mp g => rw [k.1]; rfl
  | it g => rw [k.1]; rfl
  | bx g i off => obtain ⟨_, _, _, _, e⟩ := k; rw [e]; rfl
  | tup _ => cases h
  | agg _ => cases h
  | clo f a b => obtain ⟨_, _, e, _⟩ := k; rw [e]; rfl
  | iface t y => obtain ⟨_, e, _⟩ := k; rw [e]; rfl
theorem AV.ones_rep {L : Lay} {w : World} : ∀ {cs : List AV} {us : List Value}, cs.all AV.one = true → AReps L w cs us → ∀ x ∈ us, x.oneCell' = true
  | [], _, _, h, x, hx => by rw [show _ = [] from h] at hx; cases hx
  | c :: cs, _, ha, ⟨u, ut, e, h1, h2⟩, x, hx => by
    simp only [List.all_cons, Bool.and_eq_true] at ha
    rw [e] at hx
    rcases List.mem_cons.1 hx with rfl | hx
    · exact AV.one_rep ha.1 h1
    · exact AV.ones_rep ha.2 h2 x hx

section
variable {P : Program} {W0 : World} {L0 L : Lay} {env : List AV} {S : Sto} {w : World} {a : Act}

theorem szOf {t : Nat} {ag : Bool} {n : Nat} (h : lt P t = some (ag, n)) (hz : ag = false → (P.info? t).map (·.size) = some 1) (w' : World) : (sizeOf t).run P w' = .ok n w' := by
  obtain ⟨d, i, h1, h2, h3⟩ := lt_spec h
  rw [run_sizeOf' h2]
  rcases h3 with ⟨_, _, h4⟩ | ⟨h4, h5, _⟩
  · rw [h4]
  · have := hz h4; rw [h2] at this; simp at this; rw [this, h5]

def okSz (P : Program) (t : Nat) : Bool := match lt P t with | some (false, _) => (match P.info? t with | some i => i.size == 1 | none => false) | some (true, _) => true | none => false
theorem okSz_spec {t : Nat} {ag : Bool} {n : Nat} (h : lt P t = some (ag, n)) (hz : okSz P t = true) : ag = false → (P.info? t).map (·.size) = some 1 := by
  intro e; subst e
  unfold okSz at hz
  rw [h] at hz
  simp only at hz
  split at hz
  · rename_i i hi; rw [hi]; simp at hz; simp [hz]
  · cases hz

def Mks (P : Program) (W0 : World) (L0 : Lay) (a : Act) (w : World) (o : Oper) (env : List AV) (S : Sto) : Prop :=
  ∃ w' L', (execOp a.eval o).run P w = .ok .skip w' ∧ Rel W0 L0 L' env S w' a

theorem setRow_same {k g : Nat} {cs : Array Value} (hg : L.own g = some k) : Same k L w L (w.setRow g cs) :=
  ⟨fun b hb hne => ⟨setRow_other w g b cs (fun e => hne (by rw [e]; exact hg)), rfl⟩, fun _ _ => rfl, fun _ _ => rfl, rfl, fun _ _ => rfl⟩

theorem mk_store_ref {dst type pos after guard} (hr : Rel W0 L0 L env S w a) (t g off n : Nat) (ag : Bool) (x y : Operand) (hx : aval env x = .ref g off) (hg : g ≠ 0) {cells vs : List AV} (hc : S.get g = some cells) (ht : lt P t = some (ag, n)) (hsz : okSz P t = true)
    (hy : (aval env y).cells? = some vs) (hn : vs.length = n) (ho : off + n ≤ cells.length) (h1 : vs.all AV.one = true) (hm : AV.mencs g env = false) (hms : S.mencs g = false) :
    Mks P W0 L0 a w ⟨dst, .store t x y, type, pos, after, guard⟩ env (S.upd g (setR cells off vs)) := by
  have rx := aval_rep hr.slots x
  rw [hx] at rx
  have ry := AV.cells_rep hy (aval_rep hr.slots y)
  have ry1 := AV.ones_rep h1 ry
  obtain ⟨vs0, e0, e3⟩ := (hr.objs g cells hc).2 hg
  have hkd := rx.2
  obtain ⟨c, ty, e1, e2, rfl⟩ := e0.cells hkd
  have rx := rx.1
  have hvl : (a.eval y).cells.size = n := by have := ry.length; rw [hn] at this; simpa using this
  have hcl : c.size = cells.length := by have := e3.length; simpa using this
  have hst := run_storeCells_at P (L.blk g) off ty (a.eval y).cells.toList 0 c w e1 (by simp; omega) ry1
  simp only [Nat.add_zero, Array.length_toList] at hst
  have hcs : (c.toList.take off ++ (a.eval y).cells.toList ++ c.toList.drop (off + (a.eval y).cells.size)) = setR c.toList off (a.eval y).cells.toList := by
    have := setR_eq c.toList off (a.eval y).cells.toList (by simp; omega)
    simpa using this
  rw [hcs] at hst
  have hsame : Same g L w L (w.setRow (L.blk g) (setR c.toList off (a.eval y).cells.toList).toArray) := setRow_same e2
  refine ⟨_, L, ?_, { hr with lkb := by simpa using hr.lkb, kept := hr.kept_same hg hsame, mks := hr.mks_same hg hsame, slots := AReps.st hsame _ _ hm hr.slots, objs := ?_, old := ?_, size := ?_, own_lt := ?_, os := hr.os, tape := hr.tape, output := hr.output }⟩
  · simp only [execOp, Instr.storeAt, show a.eval x = _ from rx, Instr.sureAddr, Sem.run_bind, Sem.run_pure, Result.andThen_ok, storeVar, szOf ht (okSz_spec ht hsz)]
    rw [if_neg (by simp [hvl])]
    simp [hst]
  · intro h cs' hcs'
    rw [Sto.get_upd] at hcs'
    by_cases hgh : g = h
    · subst hgh
      rw [if_pos rfl, hc] at hcs'
      simp at hcs'; subst hcs'
      refine ⟨fun h0 => absurd h0 hg, fun _ => ⟨_, by unfold Held; rw [hkd.1]; exact .inl ⟨e2, .inl ⟨hkd.2, _, ty, setRow_heap w _ c _ ty (0, 0) e1, rfl⟩⟩, ?_⟩⟩
      have hcm := Sto.mencs_get hms hc
      have hvm : AReps L (w.setRow (L.blk g) (setR c.toList off (a.eval y).cells.toList).toArray) vs (a.eval y).cells.toList :=
        AV.cells_rep hy (aval_rep (AReps.st hsame _ _ hm hr.slots) y)
      simpa using areps_setR (off := off) hvm (AReps.st hsame _ _ hcm e3)
    · rw [if_neg hgh] at hcs'
      refine ⟨fun h0 => AReps.st hsame _ _ (Sto.mencs_get hms hcs') ((hr.objs h cs' hcs').1 h0), fun h0 => ?_⟩
      obtain ⟨vs', f1, f3⟩ := (hr.objs h cs' hcs').2 h0
      exact ⟨vs', f1.congr rfl (fun _ => rfl) (fun b hb ho => hsame.heap b hb (by rcases ho with ho | ho <;> rw [ho] <;> simp <;> first | exact fun e => hgh e.symm | exact fun e => hg e.symm)), AReps.st hsame _ _ (Sto.mencs_get hms hcs') f3⟩
  · intro b hb hb0
    have h1 := hr.old b hb hb0
    have h2 := hsame.heap b (Nat.lt_of_lt_of_le hb hr.size) (fun e => hr.not_old hg b hb e hb0)
    exact ⟨h1.1, h2.1.trans h1.2⟩
  · simpa using hr.size
  · intro b g' hb; simpa using hr.own_lt b g' hb

def AV.upr (g s i off : Nat) (vs : List D) (x : AV) : AV :=
  match x with
  | .own g' e s' rows => if g' = g then (if s' = s then .own g' e s' (rows.set i (setR (rows.getD i []) off vs)) else .any) else x
  | .eref g' e s' rows j o => if g' = g then (if s' = s then .eref g' e s' (rows.set i (setR (rows.getD i []) off vs)) j o else .any) else x
  | x => if x.menc g = true then .any else x
def Sto.upr (g s i off : Nat) (vs : List D) : Sto → Sto
  | [] => []
  | (h, c) :: r => (h, c.map (AV.upr g s i off vs)) :: Sto.upr g s i off vs r
theorem Sto.get_upr {g s i off h : Nat} {vs : List D} : ∀ {S : Sto}, (S.upr g s i off vs).get h = (S.get h).map (fun c => c.map (AV.upr g s i off vs))
  | [] => rfl
  | (h', x) :: r => by
    simp only [Sto.upr, Sto.get]
    split
    · rfl
    · exact Sto.get_upr

theorem setR_setR {s i off : Nat} {rows : List (List D)} {vs : List D} (hl : ∀ r ∈ rows, r.length = s) (hi : i < rows.length) (ho : off + vs.length ≤ s) :
    (rows.set i (setR (rows.getD i []) off vs)).flatten = setR rows.flatten (i * s + off) vs := by
  have hg : rows[i]? = some (rows.getD i []) := by rw [List.getD_eq_getElem?_getD, List.getElem?_eq_getElem hi]; rfl
  have hrl := hl _ (List.mem_of_getElem? hg)
  have hf := flatten_len hl
  have hin : i * s + s ≤ rows.flatten.length := by
    rw [hf]
    have := Nat.mul_le_mul_right s (show i + 1 ≤ rows.length from hi)
    rw [Nat.add_mul, Nat.one_mul] at this; exact this
  have hcl : (setR (rows.getD i []) off vs).length = s := by rw [setR_length]; exact hrl
  rw [flatten_set hl hcl hi]
  apply List.ext_getElem?
  intro j
  rw [setR_get (setR (rows.getD i []) off vs) rows.flatten (i * s) j (by rw [hcl]; omega), setR_get vs rows.flatten (i * s + off) j (by omega), hcl]
  by_cases h1 : i * s ≤ j ∧ j < i * s + s
  · rw [if_pos h1, setR_get vs (rows.getD i []) off (j - i * s) (by rw [hrl]; exact ho)]
    by_cases h2 : off ≤ j - i * s ∧ j - i * s < off + vs.length
    · rw [if_pos h2, if_pos (by omega)]; congr 1; omega
    · rw [if_neg h2, if_neg (by omega)]
      have := flat_get hl i (j - i * s) _ hg (by omega)
      rw [← this]; congr 1; omega
  · rw [if_neg h1, if_neg (by omega)]

theorem OwnRow.stored {g e s i off : Nat} {rows : List (List D)} {u : Value} {vs : List D} {us : List Value} {b n c : Nat} {w' : World} (hu : u = .slice (some ⟨b, 0, none⟩) n c) (h : OwnRow L w g e s rows u) (hi : i < rows.length) (ho : off + vs.length ≤ s)
    (hv : DReps (L.mem w) vs us) (h1 : ∀ x ∈ us, x.oneCell' = true) {cur : Array Value} {ty : Nat} (hb : w.heap[b]? = some (.cells cur ty (0, 0)))
    (hw : w'.heap[b]? = some (.cells (setR cur.toList (i * s + off) us).toArray ty (0, 0))) (hm : (L.mem w).le (L.mem w')) : OwnRow L w' g e s (rows.set i (setR (rows.getD i []) off vs)) u := by
  obtain ⟨xs, hr, h2, h3, h4, h5⟩ := h
  have hul := hv.length
  have hin : i * s + s ≤ rows.length * s := by
    have := Nat.mul_le_mul_right s (show i + 1 ≤ rows.length from hi)
    rw [Nat.add_mul, Nat.one_mul] at this; exact this
  rcases hr.2 with ⟨e1, _⟩ | ⟨b', c', cur', e1, e2, e3, e4, e5, e6, e7⟩
  · rw [hu] at e1; simp at e1
  · rw [hu] at e1; simp at e1
    obtain ⟨rfl, rfl, rfl⟩ := e1
    rw [hb] at e3; simp at e3
    obtain ⟨rfl, rfl⟩ := e3
    have hcap : rows.length * s ≤ c * s := Nat.mul_le_mul_right s e4
    refine ⟨setR xs (i * s + off) us, ⟨by rw [setR_length, hr.1, List.length_set], .inr ⟨b, c, _, by rw [hu, List.length_set], Nat.zero_le _, hw, by simpa using e4, e5, by simp [setR_length, e6], ?_⟩⟩, h2, fun r hr => ?_, mem_setR h1 h4, ?_⟩
    · rw [List.length_set, ← e7]
      apply List.ext_getElem?
      intro j
      simp only [List.toList_toArray] 
      rw [List.getElem?_take, setR_get _ _ _ _ (by simp; omega), setR_get _ _ _ _ (by simp; omega), List.getElem?_take]
      by_cases hj : j < rows.length * s
      · rw [if_pos hj, if_pos hj]
      · rw [if_neg hj, if_neg hj, if_neg (by omega)]
    · rcases List.mem_or_eq_of_mem_set hr with h | h
      · exact h3 r h
      · rw [h, setR_length]
        exact h3 _ (by rw [List.getD_eq_getElem?_getD, List.getElem?_eq_getElem hi]; exact List.getElem_mem hi)
    · rw [setR_setR h3 hi ho]
      exact dreps_setR (DReps.mono hm _ _ hv) (DReps.mono hm _ _ h5)

theorem mk_store_eref {dst type pos after guard} (hr : Rel W0 L0 L env S w a) (t g e s i off n : Nat) (ag : Bool) (x y : Operand) {rows : List (List D)} (hx : aval env x = .eref g e s rows i off) (hg : g ≠ 0) (hgo : S.get g = none) {vs : List D} (ht : lt P t = some (ag, n)) (hsz : okSz P t = true)
    (hy : (aval env y).dcells = some vs) (hn : vs.length = n) (ho : off + n ≤ s) (h1 : vs.all D.one = true) :
    Mks P W0 L0 a w ⟨dst, .store t x y, type, pos, after, guard⟩ (env.map (AV.upr g s i off vs)) (S.upr g s i off vs) := by
  have rx := aval_rep hr.slots x
  rw [hx] at rx
  obtain ⟨hrow, hi, b, nn, c, e1, e2⟩ := rx
  have ry := AV.dcells_rep hy (aval_rep hr.slots y)
  have ry1 := one_all h1 ry
  have hvl : (a.eval y).cells.size = n := by have := ry.length; rw [hn] at this; simpa using this
  have hrow' := hrow
  obtain ⟨xs, hown, f2, f3, f4, f5⟩ := hrow
  rcases hown.2 with ⟨q1, _⟩ | ⟨b', c', cur, q1, q2, q3, q4, q5, q6, q7⟩
  · rw [q1] at e1; simp at e1
  · have hbb := q1
    rw [e1] at hbb; simp at hbb
    obtain ⟨rfl, rfl, rfl⟩ := hbb
    have hob : L.own b = some g := f2 b (by rw [e1]; rfl)
    have hin : i * s + s ≤ rows.length * s := by
      have := Nat.mul_le_mul_right s (show i + 1 ≤ rows.length from hi)
      rw [Nat.add_mul, Nat.one_mul] at this; exact this
    have hcap : rows.length * s ≤ c * s := Nat.mul_le_mul_right s q4
    have hst := run_storeCells_at P b (i * s + off) e (a.eval y).cells.toList 0 cur w q3 (by simp; omega) ry1
    simp only [Nat.add_zero, Array.length_toList] at hst
    have hcs : (cur.toList.take (i * s + off) ++ (a.eval y).cells.toList ++ cur.toList.drop (i * s + off + (a.eval y).cells.size)) = setR cur.toList (i * s + off) (a.eval y).cells.toList := by
      have := setR_eq cur.toList (i * s + off) (a.eval y).cells.toList (by simp; omega)
      simpa using this
    rw [hcs] at hst
    have hsame : Same g L w L (w.setRow b (setR cur.toList (i * s + off) (a.eval y).cells.toList).toArray) := setRow_same hob
    have hw' := setRow_heap w b cur (setR cur.toList (i * s + off) (a.eval y).cells.toList).toArray e (0, 0) q3
    generalize hW : w.setRow b (setR cur.toList (i * s + off) (a.eval y).cells.toList).toArray = w' at *
    have hmle := hsame.mem
    have one : ∀ (z : AV) (u : Value), ARep L w z u → ARep L w' (AV.upr g s i off vs z) u := by
      intro z u hz
      have keep : ∀ z : AV, ARep L w z u → ARep L w' (if z.menc g = true then .any else z) u := fun z hz => by
        by_cases hm : z.menc g = true
        · rw [if_pos hm]; trivial
        · rw [if_neg hm]; exact ARep.st hsame z u (by simpa using hm) hz
      cases z with
      | own g' e' s' rows' =>
        simp only [AV.upr]
        by_cases hgg : g' = g
        · subst hgg
          rw [if_pos rfl]
          by_cases hss : s' = s
          · subst hss
            rw [if_pos rfl]
            obtain ⟨k1, k2⟩ := hz
            have hlen : rows'.length = rows.length := by
              obtain ⟨xs', ho', _⟩ := k2
              rcases ho'.2 with ⟨z1, _⟩ | ⟨_, _, _, z1, _⟩
              · rw [k1, e1] at z1; simp at z1
              · rw [k1, e1] at z1; simp at z1; omega
            exact ⟨k1, OwnRow.stored (by rw [k1]; exact e1) k2 (by rw [hlen]; exact hi) (by rw [hn]; exact ho) ry ry1 q3 hw' hmle⟩
          · rw [if_neg hss]; trivial
        · rw [if_neg hgg]; exact ARep.st hsame _ u (by simpa [AV.menc] using hgg) hz
      | eref g' e' s' rows' j o =>
        simp only [AV.upr]
        by_cases hgg : g' = g
        · subst hgg
          rw [if_pos rfl]
          by_cases hss : s' = s
          · subst hss
            rw [if_pos rfl]
            obtain ⟨k2, kj, b2, n2, c2, k3, k4⟩ := hz
            have hlen : rows'.length = rows.length := by
              obtain ⟨xs', ho', _⟩ := k2
              rcases ho'.2 with ⟨z1, _⟩ | ⟨_, _, _, z1, _⟩
              · rw [e1] at z1; simp at z1
              · rw [e1] at z1; simp at z1; omega
            exact ⟨OwnRow.stored e1 k2 (by rw [hlen]; exact hi) (by rw [hn]; exact ho) ry ry1 q3 hw' hmle, by simpa using kj, b2, n2, c2, k3, k4⟩
          · rw [if_neg hss]; trivial
        · rw [if_neg hgg]; exact ARep.st hsame _ u (by simpa [AV.menc] using hgg) hz
      | any => exact keep _ hz
      | d _ => exact keep _ hz
      | ref _ _ => exact keep _ hz
      | tup _ => exact keep _ hz
      | agg _ => exact keep _ hz
      | clo _ _ _ => exact keep _ hz
      | iface _ _ => exact keep _ hz
      | yld _ _ _ _ _ => exact keep _ hz
      | mp _ => exact keep _ hz
      | bx _ _ _ => exact keep _ hz
      | it _ => exact keep _ hz
    have all : ∀ (zs : List AV) (us : List Value), AReps L w zs us → AReps L w' (zs.map (AV.upr g s i off vs)) us := by
      intro zs
      induction zs with
      | nil => exact fun us h => h
      | cons z zs ih => exact fun us ⟨u, ut, e, h1, h2⟩ => ⟨u, ut, e, one z u h1, ih ut h2⟩
    refine ⟨w', L, ?_, { hr with lkb := by rw [← hW]; simpa using hr.lkb, kept := hr.kept_same hg hsame, mks := hr.mks_same hg hsame, slots := all _ _ hr.slots, objs := ?_, old := ?_, size := ?_, own_lt := ?_, os := ?_, tape := ?_, output := ?_ }⟩
    · simp only [execOp, Instr.storeAt, e2, Instr.sureAddr, Sem.run_bind, Sem.run_pure, Result.andThen_ok, storeVar, szOf ht (okSz_spec ht hsz)]
      rw [if_neg (by simp [hvl])]
      simp [hst]
    · intro h cs' hcs'
      rw [Sto.get_upr] at hcs'
      cases hh : S.get h with
      | none => rw [hh] at hcs'; cases hcs'
      | some c0 =>
        rw [hh] at hcs'; simp at hcs'; subst hcs'
        refine ⟨fun h0 => all _ _ ((hr.objs h c0 hh).1 h0), fun h0 => ?_⟩
        obtain ⟨vs', f1, f3⟩ := (hr.objs h c0 hh).2 h0
        have hne : h ≠ g := fun e => by rw [e, hgo] at hh; cases hh
        exact ⟨vs', f1.congr rfl (fun _ => rfl) (fun b hb ho => hsame.heap b hb (by rcases ho with ho | ho <;> rw [ho] <;> simp <;> first | exact hne | exact fun e => hg e.symm)), all _ _ f3⟩
    · intro b hb hb0
      have h1 := hr.old b hb hb0
      have h2 := hsame.heap b (Nat.lt_of_lt_of_le hb hr.size) (fun e => hr.not_old hg b hb e hb0)
      exact ⟨h1.1, h2.1.trans h1.2⟩
    · rw [← hW]; simpa using hr.size
    · intro b g' hb; rw [← hW]; simpa using hr.own_lt b g' hb
    · rw [← hW]; exact hr.os
    · rw [← hW]; exact hr.tape
    · rw [← hW]; exact hr.output

theorem made_take {z : Array Value} {m n : Nat} (h : m ≤ n) : (madeCells z n).toList.take m = (madeCells z m).toList := by
  apply List.ext_getElem?
  intro j
  by_cases hj : j < m
  · have : j < n := by omega
    simp [madeCells, hj, this, List.getElem?_take]
  · simp [madeCells, hj, List.getElem?_take]
theorem mk_make {dst type pos after guard} (hr : Rel W0 L0 L env S w a) {k : Nat} (hk : k ≠ 0) (t : Nat) (x y : Operand) {e s b : Nat} {zc : List D} (hT : rowTy P t = some (e, s, b)) (hz : zcells P e = some zc) (h1z : zc.all D.one = true)
    (ix : (aval env x).isInt) (iy : (aval env y).isInt) (hxy : (aval env y).int = (aval env x).int ∨ (aval env x).int ≤ (aval env y).int) (h0 : 0 ≤ (aval env x).int) (hb : (aval env y).int * b ≤ 140737488355328) (hm : (aval env y).int ≤ 4611686018427387904) :
    Mk P W0 L0 a w ⟨dst, .makeSlice t x y, type, pos, after, guard⟩ (env.map (AV.kill k)) (S.kill k) (.own k e s (List.replicate (aval env x).int.toNat zc)) := by
  obtain ⟨i, z, g1, g2, g3, g4, g5, g6, g7⟩ := rowTy_spec hT
  obtain ⟨z', hz1, hz2⟩ := zcells_spec hz
  have hzz : z' = z := by
    have h1 := hz1 w
    have h2 : (zeroValue e).run P w = .ok z w := by simp [zeroValue, run_typeInfo' g2, g3]
    rw [h2] at h1; simp at h1; exact h1.symm
  subst hzz
  have ex := AV.isInt_rep ix (aval_rep hr.slots x)
  have ey := AV.isInt_rep iy (aval_rep hr.slots y)
  have hle : (aval env x).int ≤ (aval env y).int := by rcases hxy with h | h <;> omega
  clear hxy
  generalize (aval env x).int = m at *
  generalize (aval env y).int = c at *
  obtain ⟨n, rfl⟩ : ∃ n : Nat, m = n := ⟨m.toNat, by omega⟩
  obtain ⟨q, rfl⟩ : ∃ q : Nat, c = q := ⟨c.toNat, by omega⟩
  have hnq : n ≤ q := by omega
  have hml : q ≤ maxLen := by simp only [maxLen]; omega
  have hb' : (i.bytes : Int) * (q : Int) ≤ 281474976710656 := by
    rw [g7, Int.mul_comm]; omega
  have hrun := run_make (P := P) w t e i z' g1 g2 g3 (aval env x).kind (aval env y).kind n q (by omega) (by omega) hb' (by simp only [maxLen] at hml; omega)
  simp only [Int.toNat_natCast, g6] at hrun
  have hms : n * s ≤ q * s := Nat.mul_le_mul_right s hnq
  have hown : (w.alloc (.cells (madeCells z'.cells (q * s)) e)).ownsRow 0 e s (.slice (some ⟨w.heap.size, 0, none⟩) n q) n (madeCells z'.cells (n * s)).toList :=
    ⟨by simp [size_madeCells], .inr ⟨w.heap.size, q, _, rfl, Nat.zero_le _, heap_alloc_new w _, hnq, hml, size_madeCells _ _, made_take hms⟩⟩
  have hg : w.grownBy (w.alloc (.cells (madeCells z'.cells (q * s)) e)) none := World.grownBy_alloc w _ none
  generalize w.alloc (.cells (madeCells z'.cells (q * s)) e) = w' at *
  have hrep : DReps (L.mem w) (List.replicate n zc).flatten (madeCells z'.cells (n * s)).toList := by rw [hz2]; exact zrows_rep g4 g5 n
  have hone : ∀ x ∈ (madeCells z'.cells (n * s)).toList, x.oneCell' = true := by
    refine one_all ?_ hrep
    rw [List.all_flatten]
    simp only [List.all_eq_true]
    intro x hx
    rw [List.eq_of_mem_replicate hx]
    simpa using h1z
  obtain ⟨L', h1, h2⟩ := rel_row (w' := w') (e := e) (s := s) (rows := List.replicate n zc) (v := .slice (some ⟨w.heap.size, 0, none⟩) n q) (hr.kill k) hk (mens_kill k env) (Sto.mens_killed k S) (Sto.kill_none k S)
    hg.size hg.os hg.tape hg.output (fun b hb _ => hg.block b hb (by simp)) (fun b hb => by simp [Value.ownBlock] at hb; exact .inr (by omega)) (by simpa using hown) (fun r hr => by rw [List.eq_of_mem_replicate hr, hz2]; simpa using g4) hone hrep
  refine ⟨_, _, L', ?_, h1, by simpa using h2⟩
  simp [execOp, ex, ey, hrun]

end
end Go.E

namespace Go.E
open Go

inductive Leaf where
  | int (k : IntKind)
  | bool
  | str
def leafOk : List Leaf → List D → Prop
  | [], [] => True
  | .int k :: ls, .v (.int k' _) :: xs => k = k' ∧ leafOk ls xs
  | .bool :: ls, .v (.bool _) :: xs => leafOk ls xs
  | .str :: ls, .v (.string _) :: xs => leafOk ls xs
  | _, _ => False
def eqD : D → D → Bool
  | .v (.int _ a), .v (.int _ b) => a == b
  | .v (.bool a), .v (.bool b) => a == b
  | .v (.string a), .v (.string b) => a.toList == b.toList
  | _, _ => false
def eqDs : List D → List D → Bool
  | [], [] => true
  | x :: xs, y :: ys => eqD x y && eqDs xs ys
  | _, _ => false

def planF (plan : TypeId → Option (List Leaf)) : Nat → List Field → Option (List Leaf)
  | _, [] => some []
  | o, f :: fs => if f.name = "_" ∨ f.offset ≠ o then none else
    match plan f.type with
    | some l => if l.length = 0 then none else (planF plan (o + l.length) fs).map (l ++ ·)
    | none => none
def plan (P : Program) : Nat → TypeId → Option (List Leaf)
  | 0, _ => none
  | n + 1, t => match P.underlying t, P.info? t with
    | some (.int k), some _ => some [.int k]
    | some .bool, some _ => some [.bool]
    | some .string, some _ => some [.str]
    | some (.struct _), some i => if P.stoodInHeld t then none else match planF (plan P n) 0 (P.fieldsOf t).toList with
      | some l => if l.length = i.size then some l else none
      | none => none
    | _, _ => none

theorem leafOk_append : ∀ {l1 l2 : List Leaf} {xs : List D}, leafOk (l1 ++ l2) xs → ∃ x1 x2, xs = x1 ++ x2 ∧ leafOk l1 x1 ∧ leafOk l2 x2 ∧ x1.length = l1.length
  | [], l2, xs, h => ⟨[], xs, rfl, trivial, h, rfl⟩
  | .int k :: l1, l2, .v (.int k' n) :: xs, ⟨hk, h⟩ => by
    obtain ⟨x1, x2, rfl, h1, h2, h3⟩ := leafOk_append (l1 := l1) h
    exact ⟨_ :: x1, x2, rfl, ⟨hk, h1⟩, h2, by simp [h3]⟩
  | .bool :: l1, l2, .v (.bool b) :: xs, h => by
    obtain ⟨x1, x2, rfl, h1, h2, h3⟩ := leafOk_append (l1 := l1) (show leafOk (l1 ++ l2) xs from h)
    exact ⟨_ :: x1, x2, rfl, h1, h2, by simp [h3]⟩
  | .str :: l1, l2, .v (.string b) :: xs, h => by
    obtain ⟨x1, x2, rfl, h1, h2, h3⟩ := leafOk_append (l1 := l1) (show leafOk (l1 ++ l2) xs from h)
    exact ⟨_ :: x1, x2, rfl, h1, h2, by simp [h3]⟩
theorem eqDs_append : ∀ {a b c d : List D}, a.length = c.length → eqDs (a ++ b) (c ++ d) = (eqDs a c && eqDs b d)
  | [], b, [], d, _ => by simp [eqDs]
  | x :: a, b, y :: c, d, h => by simp [eqDs, eqDs_append (a := a) (c := c) (b := b) (d := d) (by simpa using h), Bool.and_assoc]
theorem leafOk_len : ∀ {l : List Leaf} {xs : List D}, leafOk l xs → xs.length = l.length
  | [], [], _ => rfl
  | .int _ :: l, .v (.int _ _) :: xs, h => by simp [leafOk_len h.2]
  | .bool :: l, .v (.bool _) :: xs, h => by simp [leafOk_len (l := l) (xs := xs) h]
  | .str :: l, .v (.string _) :: xs, h => by simp [leafOk_len (l := l) (xs := xs) h]

def vOf (ag : Bool) (us : List Value) : Value := if ag then .agg us.toArray else us.getD 0 undef

theorem eq_fields {P : Program} {m : Mem} {n : Nat} (ih : ∀ t l, plan P n t = some l → ∃ ag, lt P t = some (ag, l.length) ∧ ∀ k w xs ys us vs, leafOk l xs → leafOk l ys → DReps m xs us → DReps m ys vs → (Op.equalIn (n + k) t (vOf ag us) (vOf ag vs)).run P w = .ok (eqDs xs ys) w)
    (k : Nat) (w : World) {xs ys : List D} {us vs : List Value} (hx : DReps m xs us) (hy : DReps m ys vs) : ∀ (fs : List Field) (o : Nat) (l : List Leaf), planF (plan P n) o fs = some l → leafOk l (xs.drop o) → leafOk l (ys.drop o) →
      (Op.eqFields (n + k) us.toArray vs.toArray fs).run P w = .ok (eqDs (xs.drop o) (ys.drop o)) w
  | [], o, l, h, h1, h2 => by
    simp only [planF, Option.some.injEq] at h; subst h
    have e1 : xs.drop o = [] := List.eq_nil_of_length_eq_zero (leafOk_len h1)
    have e2 : ys.drop o = [] := List.eq_nil_of_length_eq_zero (leafOk_len h2)
    rw [e1, e2]; simp [Op.eqFields, eqDs]
  | f :: fs, o, l, h, h1, h2 => by
    unfold planF at h
    split at h
    · cases h
    · rename_i hn
      have hn1 : f.name ≠ "_" := fun e => hn (.inl e)
      have hn2 : f.offset = o := Decidable.byContradiction fun e => hn (.inr e)
      split at h
      · rename_i l1 hl1
        split at h
        · cases h
        rename_i hne
        obtain ⟨l2, hl2, rfl⟩ := Option.map_eq_some_iff.1 h
        obtain ⟨x1, x2, ex, p1, p2, p3⟩ := leafOk_append h1
        obtain ⟨y1, y2, ey, q1, q2, q3⟩ := leafOk_append h2
        obtain ⟨ag, hlt, hrun⟩ := ih f.type l1 hl1
        have hxl := hx.length
        have hyl := hy.length
        have ex2 : xs.drop (o + l1.length) = x2 := by rw [← List.drop_drop, ex, ← p3]; simp
        have ey2 : ys.drop (o + l1.length) = y2 := by rw [← List.drop_drop, ey, ← q3]; simp
        have ex1 : (xs.drop o).take l1.length = x1 := by rw [ex, ← p3]; simp
        have ey1 : (ys.drop o).take l1.length = y1 := by rw [ey, ← q3]; simp
        have lx : o + l1.length ≤ xs.length ∨ l1.length = 0 := by
          have := congrArg List.length ex; simp [p3] at this; omega
        have ly : o + l1.length ≤ ys.length ∨ l1.length = 0 := by
          have := congrArg List.length ey; simp [q3] at this; omega
        have ihf := eq_fields ih k w hx hy fs (o + l1.length) l2 hl2 (by rw [ex2]; exact p2) (by rw [ey2]; exact q2)
        have hr1 := hrun k w x1 y1 _ _ p1 q1 (by rw [← ex1]; exact DReps.take l1.length (DReps.drop o hx)) (by rw [← ey1]; exact DReps.take l1.length (DReps.drop o hy))
        rw [ex, ey, eqDs_append (p3.trans q3.symm)]
        rw [ex2, ey2] at ihf
        have lx : o + l1.length ≤ us.toArray.size := by simp [hxl]; omega
        have ly : o + l1.length ≤ vs.toArray.size := by simp [hyl]; omega
        have px := run_part' hlt w us.toArray o lx
        have py := run_part' hlt w vs.toArray o ly
        simp only [Op.eqFields, hn1, ne_eq, not_false_eq_true, if_true, Sem.run_bind, hn2, px, Result.andThen_ok, py]
        have e : ∀ ws : List Value, (if ag = true then Value.agg ((ws.drop o).take l1.length).toArray else ((ws.drop o).take l1.length).getD 0 undef) = vOf ag ((ws.drop o).take l1.length) := fun _ => rfl
        simp only [e]
        rw [hr1]
        cases eqDs x1 y1 with
        | true => simpa using ihf
        | false => simp
      · cases h

theorem one_rep {m : Mem} {x : Value} {us : List Value} (h : DReps m [.v x] us) : us = [x] := by
  obtain ⟨u, ut, e, h1, h2⟩ := h
  rw [e, show ut = [] from h2, show u = x from h1]
theorem leaf_int {k : IntKind} : ∀ {xs : List D}, leafOk [.int k] xs → ∃ n, xs = [.v (.int k n)]
  | [.v (.int k' n)], ⟨e, _⟩ => ⟨n, by rw [e]⟩
theorem leaf_bool : ∀ {xs : List D}, leafOk [.bool] xs → ∃ b, xs = [.v (.bool b)]
  | [.v (.bool b)], _ => ⟨b, rfl⟩
theorem leaf_str : ∀ {xs : List D}, leafOk [.str] xs → ∃ b, xs = [.v (.string b)]
  | [.v (.string b)], _ => ⟨b, rfl⟩

theorem eq_plan {P : Program} {m : Mem} : ∀ (n : Nat) (t : TypeId) (l : List Leaf), plan P n t = some l →
    ∃ ag, lt P t = some (ag, l.length) ∧ ∀ k w xs ys us vs, leafOk l xs → leafOk l ys → DReps m xs us → DReps m ys vs → (Op.equalIn (n + k) t (vOf ag us) (vOf ag vs)).run P w = .ok (eqDs xs ys) w
  | 0, t, l, h => by simp [plan] at h
  | n + 1, t, l, h => by
    unfold plan at h
    split at h
    · rename_i k i hu hi
      simp only [Option.some.injEq] at h; subst h
      refine ⟨false, by simp [lt, hu, hi], fun q w xs ys us vs h1 h2 h3 h4 => ?_⟩
      obtain ⟨a, rfl⟩ := leaf_int h1
      obtain ⟨b, rfl⟩ := leaf_int h2
      rw [one_rep h3, one_rep h4]
      rw [show n + 1 + q = n + q + 1 by omega]
      simp [vOf, run_equalIn_int w (n + q) t k k a b hu, eqDs, eqD]
    · rename_i i hu hi
      simp only [Option.some.injEq] at h; subst h
      refine ⟨false, by simp [lt, hu, hi], fun q w xs ys us vs h1 h2 h3 h4 => ?_⟩
      obtain ⟨a, rfl⟩ := leaf_bool h1
      obtain ⟨b, rfl⟩ := leaf_bool h2
      rw [one_rep h3, one_rep h4]
      rw [show n + 1 + q = n + q + 1 by omega]
      simp [vOf, run_equalIn_bool' w (n + q) t a b hu, eqDs, eqD]
    · rename_i i hu hi
      simp only [Option.some.injEq] at h; subst h
      refine ⟨false, by simp [lt, hu, hi], fun q w xs ys us vs h1 h2 h3 h4 => ?_⟩
      obtain ⟨a, rfl⟩ := leaf_str h1
      obtain ⟨b, rfl⟩ := leaf_str h2
      rw [one_rep h3, one_rep h4]
      rw [show n + 1 + q = n + q + 1 by omega]
      simp [vOf, run_equalIn_string w (n + q) t a b hu, eqDs, eqD]
    · rename_i fs i hu hi
      split at h
      · cases h
      · rename_i hst
        split at h
        · rename_i l' hl'
          split at h
          · rename_i hsz
            simp only [Option.some.injEq] at h; subst h
            refine ⟨true, by simp [lt, hu, hi, hsz], fun q w xs ys us vs h1 h2 h3 h4 => ?_⟩
            have hf : P.underlying t = some (.struct (P.fieldsOf t)) := by simp [Program.fieldsOf, hu]
            rw [show n + 1 + q = n + q + 1 by omega]
            simp only [vOf, if_true]
            rw [run_equalIn_agg w (n + q) t _ _ hf (by simpa using hst)]
            simpa using eq_fields (fun t l h => eq_plan n t l h) q w h3 h4 _ 0 l' hl' (by simpa using h1) (by simpa using h2)
          · cases h
        · cases h
    · cases h

section
variable {P : Program} {X : List Nat} {L : Lay} {w : World} {ρ : Operand → Value} {A : Operand → AV}
def stP (P : Program) (t : TypeId) : Option (List Leaf) := match P.underlying t with | some (.struct _) => if P.eqGuardType P.depth t then none else plan P 50 t | _ => none
def stcV (op : BinOp) (x y : AV) : AV :=
  match x, y with
  | .d (.agg xs), .d (.agg ys) => (match op with | .eql => .b (eqDs xs ys) | .neq => .b (!eqDs xs ys) | _ => .any)
  | _, _ => .any
def stcS (l : List Leaf) (op : BinOp) (x y : AV) : Prop :=
  match x, y with
  | .d (.agg xs), .d (.agg ys) => leafOk l xs ∧ leafOk l ys ∧ (match op with | .eql | .neq => True | _ => False)
  | _, _ => False
theorem yv_stc {dst type pos after guard} (op : BinOp) (t t' : Nat) (x y : Operand) {l : List Leaf} (hx : ARep L w (A x) (ρ x)) (hy : ARep L w (A y) (ρ y)) (ht : stP P t = some l) (hs : stcS l op (A x) (A y)) :
    Yv P X L w ρ ⟨dst, .binOp op t x y t', type, pos, after, guard⟩ (stcV op (A x) (A y)) := by
  unfold stP at ht
  split at ht
  case h_2 => cases ht
  rename_i fs hu
  split at ht
  · cases ht
  rename_i hg
  generalize A x = p at *
  generalize A y = q at *
  unfold stcS at hs
  split at hs
  case h_2 => exact hs.elim
  rename_i xs ys
  obtain ⟨h1, h2, h3⟩ := hs
  obtain ⟨us, e1, k1⟩ := hx
  obtain ⟨vs, e2, k2⟩ := hy
  obtain ⟨ag, hlt, hrun⟩ := eq_plan (m := L.mem w) 50 t l ht
  have hag : ag = true := by
    unfold lt at hlt; rw [hu] at hlt
    cases hi : P.info? t with
    | none => simp [hi] at hlt
    | some i => simp [hi] at hlt; exact hlt.1
  subst hag
  have hr : ∀ w', (Op.equalIn 10000 t (.agg us) (.agg vs)).run P w' = .ok (eqDs xs ys) w' := fun w' => by
    have := hrun 9950 w' xs ys us.toList vs.toList h1 h2 k1 k2
    simpa [vOf] using this
  refine .of_all (v := .bool (match op with | .neq => !eqDs xs ys | _ => eqDs xs ys)) ?_ fun w' => ?_
  · cases op <;> simp only at h3 <;> exact rfl
  · simp only [execOp, e1, e2, Sem.run_bind, run_eqGuard_agg w' op t x y us vs (by simpa using hg), Result.andThen_ok]
    cases op <;> simp only at h3
    · rw [run_eql_struct]; simp [hr]
    · rw [run_neq_struct]; simp [hr]
end
end Go.E

namespace Go.E
open Go Go.RowKit

def AV.cpy (g s : Nat) (new : List (List D)) (x : AV) : AV :=
  match x with
  | .own g' e s' rows => if g' = g then (if s' = s then .own g' e s' (new ++ rows.drop new.length) else .any) else x
  | x => if x.menc g = true then .any else x
def Sto.cpy (g s : Nat) (new : List (List D)) : Sto → Sto
  | [] => []
  | (h, c) :: r => (h, c.map (AV.cpy g s new)) :: Sto.cpy g s new r
theorem Sto.get_cpy {g s h : Nat} {new : List (List D)} : ∀ {S : Sto}, (S.cpy g s new).get h = (S.get h).map (fun c => c.map (AV.cpy g s new))
  | [] => rfl
  | (h', x) :: r => by
    simp only [Sto.cpy, Sto.get]
    split
    · rfl
    · exact Sto.get_cpy

theorem setR_zero {α : Type} (l vs : List α) (h : vs.length ≤ l.length) : setR l 0 vs = vs ++ l.drop vs.length := by
  have := setR_eq l 0 vs (by simpa using h)
  simpa using this.symm

theorem run_copy_rows {P : Program} (w : World) (dT sT ty elem s : Nat) (g dLen dCap : Nat) (a : Addr) (sLen sCap : Nat) (cur : Array Value) (t : TypeId) (cs : List Value) {i : TypeInfo}
    (hu : P.underlying dT = some (.slice elem)) (hq : P.info? elem = some i) (hs : i.size = s)
    (hg : w.heap[g]? = some (.cells cur t (0, 0))) (hle : sLen ≤ dLen) (hn : cs.length = sLen * s)
    (hsrc : ∀ j v, cs[j]? = some v → w.cell? (a.add j) = some v) (hfit : cs.length ≤ cur.size) (h1 : ∀ v ∈ cs, v.oneCell' = true) :
    (Builtin.copy_ #[dT, sT] ty #[.slice (some ⟨g, 0, none⟩) dLen dCap, .slice (some a) sLen sCap]).run P w =
      .ok (goInt sLen) (w.setRow g (setR cur.toList 0 cs).toArray) := by
  have hl := run_loadCells_list (P := P) w a cs hsrc
  have hst := run_storeCells_at P g 0 t cs 0 cur w hg (by simpa using hfit) h1
  have hmin : Nat.min sLen dLen = sLen := Nat.min_eq_left hle
  rw [setR_zero _ _ (by simpa using hfit)]
  rw [hn] at hl
  simp only [Nat.add_zero, Nat.zero_add, List.take_zero, List.nil_append] at hst
  simp [Builtin.copy_, run_underlying hu, Builtin.lenOf, Builtin.firstCells, sizeOf, typeInfo, hq, hs, hmin, hl, hst]

section
variable {P : Program} {W0 : World} {L0 L : Lay} {env : List AV} {S : Sto} {w : World} {a : Act}

theorem OwnRow.copied {g e s : Nat} {rows new : List (List D)} {u : Value} {us : List Value} {b n c : Nat} {w' : World} (hu : u = .slice (some ⟨b, 0, none⟩) n c) (h : OwnRow L w g e s rows u) (hle : new.length ≤ rows.length) (hnl : ∀ r ∈ new, r.length = s)
    (hv : DReps (L.mem w) new.flatten us) (h1 : ∀ x ∈ us, x.oneCell' = true) {cur : Array Value} {ty : Nat} (hb : w.heap[b]? = some (.cells cur ty (0, 0)))
    (hw : w'.heap[b]? = some (.cells (setR cur.toList 0 us).toArray ty (0, 0))) (hm : (L.mem w).le (L.mem w')) : OwnRow L w' g e s (new ++ rows.drop new.length) u := by
  obtain ⟨xs, hr, h2, h3, h4, h5⟩ := h
  have hul := hv.length
  rw [flatten_len hnl] at hul
  have hin : new.length * s ≤ rows.length * s := Nat.mul_le_mul_right s hle
  have hlen : (new ++ rows.drop new.length).length = rows.length := by rw [List.length_append, List.length_drop]; omega
  rcases hr.2 with ⟨e1, _⟩ | ⟨b', c', cur', e1, e2, e3, e4, e5, e6, e7⟩
  · rw [hu] at e1; simp at e1
  · rw [hu] at e1; simp at e1
    obtain ⟨rfl, rfl, rfl⟩ := e1
    rw [hb] at e3; simp at e3
    obtain ⟨rfl, rfl⟩ := e3
    have hcap : rows.length * s ≤ c * s := Nat.mul_le_mul_right s e4
    have hxl := hr.1
    refine ⟨setR xs 0 us, ⟨by rw [setR_length, hr.1, hlen], .inr ⟨b, c, _, by rw [hu, hlen], Nat.zero_le _, hw, by rw [hlen]; exact e4, e5, by simp [setR_length, e6], ?_⟩⟩, h2, fun r hr => ?_, mem_setR h1 h4, ?_⟩
    · rw [hlen, ← e7]
      apply List.ext_getElem?
      intro j
      simp only [List.toList_toArray]
      rw [List.getElem?_take, setR_get _ _ _ _ (by simp; omega), setR_get _ _ _ _ (by simp; omega), List.getElem?_take]
      by_cases hj : j < rows.length * s
      · rw [if_pos hj, if_pos hj]
      · rw [if_neg hj, if_neg hj, if_neg (by omega)]
    · rcases List.mem_append.1 hr with h | h
      · exact hnl r h
      · exact h3 r (List.mem_of_mem_drop h)
    · have hfl : (new ++ rows.drop new.length).flatten = setR rows.flatten 0 new.flatten := by
        rw [setR_zero _ _ (by rw [flatten_len hnl, flatten_len h3]; exact hin), List.flatten_append]
        congr 1
        rw [flatten_len hnl]
        have hsp : rows.flatten = (rows.take new.length).flatten ++ (rows.drop new.length).flatten := by rw [← List.flatten_append, List.take_append_drop]
        have htl : (rows.take new.length).flatten.length = new.length * s := by
          rw [flatten_len (fun r hr => h3 r (List.mem_of_mem_take hr)), List.length_take, Nat.min_eq_left hle]
        rw [hsp, ← htl, List.drop_left]
      rw [hfl]
      exact dreps_setR (DReps.mono hm _ _ hv) (DReps.mono hm _ _ h5)

theorem mk_copy {dst type pos after guard} (hr : Rel W0 L0 L env S w a) (t t' g e s b : Nat) (x y : Operand) {rows : List (List D)} (hT : rowTy P t = some (e, s, b)) (hx : aval env x = .own g e s rows) (hg : g ≠ 0) (hgo : S.get g = none) (hy : (aval env y).isSl s) (hle : (aval env y).rows.length ≤ rows.length) :
    Mk P W0 L0 a w ⟨dst, .call ⟨.builtin .copy, #[x, y], #[t, t']⟩, type, pos, after, guard⟩ (env.map (AV.cpy g s (aval env y).rows)) (S.cpy g s (aval env y).rows) (.i (aval env y).rows.length) := by
  have rx := aval_rep hr.slots x
  rw [hx] at rx
  obtain ⟨rx1, hrow⟩ := rx
  have ry := src_rep hy (aval_rep hr.slots y)
  generalize (aval env y).rows = new at *
  obtain ⟨i, z, g1, g2, g3, g4, g5, g6, g7⟩ := rowTy_spec hT
  have run : ∀ v' w', (Builtin.copy_ #[t, t'] type #[a.eval x, a.eval y]).run P w = .ok v' w' → (execOp a.eval ⟨dst, .call ⟨.builtin .copy, #[x, y], #[t, t']⟩, type, pos, after, guard⟩).run P w = .ok (.value v') w' := by
    intro v' w' h
    simp [execOp, resolve, invoke, builtin, h]
  have hrow' := hrow
  obtain ⟨xs, hown, f2, f3, f4, f5⟩ := hrow
  -- what memory is like behind it
  obtain ⟨w', hrun, hsame, hst, hsz, ho, ht, hout⟩ : ∃ w', (Builtin.copy_ #[t, t'] type #[a.eval x, a.eval y]).run P w = .ok (goInt new.length) w' ∧ Same g L w L w' ∧
      (∀ e' rows', OwnRow L w g e' s rows' (L.hdr g) → OwnRow L w' g e' s (new ++ rows'.drop new.length) (L.hdr g)) ∧ w'.heap.size = w.heap.size ∧ w'.os = w.os ∧ w'.tape = w.tape ∧ w'.output = w.output := by
    have nothing : new = [] → (Builtin.copy_ #[t, t'] type #[a.eval x, a.eval y]).run P w = .ok (goInt 0) w → ∃ w', (Builtin.copy_ #[t, t'] type #[a.eval x, a.eval y]).run P w = .ok (goInt new.length) w' ∧ Same g L w L w' ∧
      (∀ e' rows', OwnRow L w g e' s rows' (L.hdr g) → OwnRow L w' g e' s (new ++ rows'.drop new.length) (L.hdr g)) ∧ w'.heap.size = w.heap.size ∧ w'.os = w.os ∧ w'.tape = w.tape ∧ w'.output = w.output := by
      rintro rfl h
      exact ⟨w, h, ⟨fun _ _ _ => ⟨rfl, rfl⟩, fun _ _ => rfl, fun _ _ => rfl, rfl, fun _ _ => rfl⟩, fun e' rows' h => by simpa using h, rfl, rfl, rfl, rfl⟩
    rcases ry with ⟨h1, h2⟩ | ⟨b1, o1, p1, c1, us, h1, h2, h3, h4, h5, h6⟩
    · subst h2
      refine nothing rfl ?_
      rcases hown.2 with ⟨q1, _⟩ | ⟨b', c', cur, q1, _⟩
      · rw [h1, q1]; simp [Builtin.copy_, run_underlying g1, Builtin.lenOf, Builtin.firstCells, sizeOf, typeInfo, g2]
      · rw [h1, q1]; simp [Builtin.copy_, run_underlying g1, Builtin.lenOf, Builtin.firstCells, sizeOf, typeInfo, g2, storeCells]
    · rcases hown.2 with ⟨q1, q0⟩ | ⟨b', c', cur, q1, q2, q3, q4, q5, q6, q7⟩
      · have hz : new = [] := List.eq_nil_of_length_eq_zero (by omega)
        have hus : us = [] := List.eq_nil_of_length_eq_zero (by rw [h2, hz]; simp)
        refine nothing hz ?_
        have hl := run_loadCells_list (P := P) w ⟨b1, o1, p1⟩ [] (by simp)
        simp only [List.length_nil] at hl
        rw [h1, q1, hz]
        simp [Builtin.copy_, run_underlying g1, Builtin.lenOf, Builtin.firstCells, sizeOf, typeInfo, g2, hl]
      · have hcap : rows.length * s ≤ c' * s := Nat.mul_le_mul_right s q4
        have hin : new.length * s ≤ rows.length * s := Nat.mul_le_mul_right s hle
        have hob : L.own b' = some g := f2 b' (by rw [q1]; rfl)
        have hrun := run_copy_rows (P := P) w t t' type e s b' rows.length c' ⟨b1, o1, p1⟩ new.length c1 cur e us g1 g2 g6 q3 hle h2 h3 (by omega) h4
        rw [← q1, ← h1] at hrun
        have hsame : Same g L w L (w.setRow b' (setR cur.toList 0 us).toArray) := setRow_same hob
        refine ⟨_, hrun, hsame, fun e' rows' hr' => ?_, by simp, rfl, rfl, rfl⟩
        have hlen : rows'.length = rows.length := by
          obtain ⟨xs', ho', _⟩ := hr'
          rcases ho'.2 with ⟨z1, _⟩ | ⟨_, _, _, z1, _⟩
          · rw [← rx1, q1] at z1; simp at z1
          · rw [← rx1, q1] at z1; simp at z1; omega
        exact OwnRow.copied (by rw [← rx1]; exact q1) hr' (by omega) h6 h5 h4 q3 (setRow_heap w b' cur _ e (0, 0) q3) hsame.mem
  have one : ∀ (z : AV) (u : Value), ARep L w z u → ARep L w' (AV.cpy g s new z) u := by
    intro z u hz
    have keep : ∀ z : AV, ARep L w z u → ARep L w' (if z.menc g = true then .any else z) u := fun z hz => by
      by_cases hm : z.menc g = true
      · rw [if_pos hm]; trivial
      · rw [if_neg hm]; exact ARep.st hsame z u (by simpa using hm) hz
    cases z with
    | own g' e' s' rows' =>
      simp only [AV.cpy]
      by_cases hgg : g' = g
      · subst hgg
        rw [if_pos rfl]
        by_cases hss : s' = s
        · subst hss
          rw [if_pos rfl]
          obtain ⟨k1, k2⟩ := hz
          subst k1
          exact ⟨rfl, hst e' rows' k2⟩
        · rw [if_neg hss]; trivial
      · rw [if_neg hgg]; exact ARep.st hsame _ u (by simpa [AV.menc] using hgg) hz
    | eref g' e' s' rows' j o => exact keep _ hz
    | any => exact keep _ hz
    | bx _ _ _ => exact keep _ hz
    | d _ => exact keep _ hz
    | ref _ _ => exact keep _ hz
    | tup _ => exact keep _ hz
    | agg _ => exact keep _ hz
    | clo _ _ _ => exact keep _ hz
    | iface _ _ => exact keep _ hz
    | yld _ _ _ _ _ => exact keep _ hz
    | mp _ => exact keep _ hz
    | it _ => exact keep _ hz
  have all : ∀ (zs : List AV) (us : List Value), AReps L w zs us → AReps L w' (zs.map (AV.cpy g s new)) us := by
    intro zs
    induction zs with
    | nil => exact fun us h => h
    | cons z zs ih => exact fun us ⟨u, ut, e, h1, h2⟩ => ⟨u, ut, e, one z u h1, ih ut h2⟩
  refine ⟨_, w', L, run _ _ hrun, { hr with lkb := by rw [hsz]; exact hr.lkb, kept := hr.kept_same hg hsame, mks := hr.mks_same hg hsame, slots := all _ _ hr.slots, objs := ?_, old := ?_, size := ?_, own_lt := ?_, os := ho.trans hr.os, tape := ht.trans hr.tape, output := hout.trans hr.output }, rfl⟩
  · intro h cs' hcs'
    rw [Sto.get_cpy] at hcs'
    cases hh : S.get h with
    | none => rw [hh] at hcs'; cases hcs'
    | some c0 =>
      rw [hh] at hcs'; simp at hcs'; subst hcs'
      refine ⟨fun h0 => all _ _ ((hr.objs h c0 hh).1 h0), fun h0 => ?_⟩
      obtain ⟨vs', k1, k3⟩ := (hr.objs h c0 hh).2 h0
      have hne : h ≠ g := fun e => by rw [e, hgo] at hh; cases hh
      exact ⟨vs', k1.congr rfl (fun _ => rfl) (fun b hb ho => hsame.heap b hb (by rcases ho with ho | ho <;> rw [ho] <;> simp <;> first | exact hne | exact fun e => hg e.symm)), all _ _ k3⟩
  · intro b hb hb0
    have h1 := hr.old b hb hb0
    have h2 := hsame.heap b (Nat.lt_of_lt_of_le hb hr.size) (fun e => hr.not_old hg b hb e hb0)
    exact ⟨h1.1, h2.1.trans h1.2⟩
  · rw [hsz]; exact hr.size
  · intro b g' hb; rw [hsz]; exact hr.own_lt b g' hb
end
end Go.E

namespace Go.E
open Go Go.RowKit

mutual
def AV.stay (T : List Nat) (E : List AV) : AV → Prop
  | .any => True
  | .d _ => True
  | .own g e s rows => T.contains g = false ∨ AV.own g e s rows ∈ E
  | .eref g e s rows _ _ => T.contains g = false ∨ AV.own g e s rows ∈ E
  | .ref g _ => T.contains g = false ∨ AV.ref g 0 ∈ E
  | .mp g => T.contains g = false ∨ AV.mp g ∈ E
  | .it g => T.contains g = false ∨ AV.it g ∈ E
  | .bx g i _ => T.contains g = false ∨ AV.bx g i 0 ∈ E
  | .yld g _ _ _ _ => T.contains g = false
  | .tup xs => AV.stays T E xs
  | .agg xs => AV.stays T E xs
  | .clo _ x y => AV.stays T E x ∧ AV.stays T E y
  | .iface _ x => x.stay T E
def AV.stays (T : List Nat) (E : List AV) : List AV → Prop
  | [] => True
  | x :: xs => x.stay T E ∧ AV.stays T E xs
end
structure Stays (T : List Nat) (E : List AV) (L : Lay) (w : World) (L' : Lay) (w' : World) : Prop where
  heap : ∀ b, b < w.heap.size → (∀ g, L.own b = some g → T.contains g = false) → w'.heap[b]? = w.heap[b]? ∧ L'.own b = L.own b
  blk : ∀ g, T.contains g = false → L'.blk g = L.blk g
  hdr : ∀ g, T.contains g = false → L'.hdr g = L.hdr g
  lk : L'.lk = L.lk
  E : ∀ x ∈ E, ∃ u, ARep L w x u ∧ ARep L' w' x u
theorem Stays.mem {T : List Nat} {E : List AV} {L L' : Lay} {w w' : World} (h : Stays T E L w L' w') : (L.mem w).le (L'.mem w') :=
  look_le fun b hb hlt => by
    have := h.heap b hlt (fun g hg => by rw [hb] at hg; cases hg)
    exact ⟨by rw [this.2]; exact hb, this.1⟩
theorem Stays.row {T : List Nat} {E : List AV} {L L' : Lay} {w w' : World} (h : Stays T E L w L' w') {g e s : Nat} {rows : List (List D)} {u : Value} (hg : T.contains g = false) (hr : OwnRow L w g e s rows u) : OwnRow L' w' g e s rows u := by
  obtain ⟨xs, h1, h2, h3, h5, h4⟩ := hr
  have hb : ∀ b, u.ownBlock = some b → w'.heap[b]? = w.heap[b]? ∧ L'.own b = L.own b := fun b hb =>
    h.heap b (h1.lt b hb).2 fun g' hg' => by rw [h2 b hb] at hg'; cases hg'; exact hg
  refine ⟨xs, ⟨h1.1, ?_⟩, fun b hu => by rw [(hb b hu).2]; exact h2 b hu, h3, h5, DReps.mono h.mem _ _ h4⟩
  rcases h1.2 with hn | ⟨b, cap, cur, e1, e2, e3, rest⟩
  · exact .inl hn
  · exact .inr ⟨b, cap, cur, e1, e2, by rw [(hb b (by rw [e1]; rfl)).1]; exact e3, rest⟩
mutual
theorem AV.stay_rep {T : List Nat} {E : List AV} {L L' : Lay} {w w' : World} (h : Stays T E L w L' w') : ∀ (x : AV) (u : Value), x.stay T E → ARep L w x u → ARep L' w' x u
  | .any, _, _, _ => trivial
  | .d x, u, _, hr => DRep.mono h.mem x u hr
  | .own g _ s rows, u, hm, ⟨e, hr⟩ => by
    rcases hm with hm | hm
    · exact ⟨by rw [h.hdr g hm]; exact e, h.row hm hr⟩
    · obtain ⟨u', k1, k2⟩ := h.E _ hm
      rw [show u = u' from e.trans k1.1.symm]; exact k2
  | .eref g _ s rows i off, u, hm, ⟨hr, hi, b, n, c, e1, e2⟩ => by
    rcases hm with hm | hm
    · exact ⟨by rw [h.hdr g hm]; exact h.row hm hr, hi, b, n, c, by rw [h.hdr g hm]; exact e1, e2⟩
    · obtain ⟨u', k1, k2⟩ := h.E _ hm
      have hh : L'.hdr g = L.hdr g := k2.1.symm.trans k1.1
      exact ⟨by have := k2.2; rw [k2.1] at this; exact this, hi, b, n, c, by rw [hh]; exact e1, e2⟩
  | .ref g off, u, hm, e => by
    rcases hm with hm | hm
    · exact ⟨by rw [h.blk g hm]; exact e.1, by rw [h.lk]; exact e.2.1, e.2.2⟩
    · obtain ⟨u', k1, k2⟩ := h.E _ hm
      have hb : L'.blk g = L.blk g := by have := k2.1.symm.trans k1.1; simpa using this
      exact ⟨by rw [hb]; exact e.1, by rw [h.lk]; exact e.2.1, e.2.2⟩
  | .mp g, u, hm, e => by
    rcases hm with hm | hm
    · exact ⟨by rw [h.blk g hm]; exact e.1, by rw [h.lk]; exact e.2.1, e.2.2⟩
    · obtain ⟨u', k1, k2⟩ := h.E _ hm
      have hb : L'.blk g = L.blk g := by have := k2.1.symm.trans k1.1; simpa using this
      exact ⟨by rw [hb]; exact e.1, by rw [h.lk]; exact e.2.1, e.2.2⟩
  | .bx g i off, u, hm, ⟨a, b, e1, e2, e3⟩ => by
    rcases hm with hm | hm
    · exact ⟨a, b, by rw [h.hdr g hm]; exact e1, e2, e3⟩
    · obtain ⟨u', ⟨a1, b1, f1, f2, f3⟩, ⟨a2, b2, g1, g2, g3⟩⟩ := h.E _ hm
      rw [f3] at g3
      have hb : b1 = b2 := by simpa using g3
      rw [e1] at f1
      cases f1
      rw [e2] at f2
      have hb2 : b = b1 := by
        have h3 : (b : Int) = b1 := by simpa using f2
        omega
      exact ⟨a2, b, g1, by rw [hb2, hb]; exact g2, e3⟩
  | .it g, u, hm, e => by
    rcases hm with hm | hm
    · exact ⟨by rw [h.blk g hm]; exact e.1, by rw [h.lk]; exact e.2.1, e.2.2⟩
    · obtain ⟨u', k1, k2⟩ := h.E _ hm
      have hb : L'.blk g = L.blk g := by have := k2.1.symm.trans k1.1; simpa using this
      exact ⟨by rw [hb]; exact e.1, by rw [h.lk]; exact e.2.1, e.2.2⟩
  | .yld g _ _ _ _, u, _, ⟨r, e, e2⟩ => ⟨r, by rw [h.lk]; exact e, e2⟩
  | .tup xs, _, hm, ⟨us, e, k1⟩ => ⟨us, e, AV.stays_rep h xs _ hm k1⟩
  | .agg xs, _, hm, ⟨us, e, k1⟩ => ⟨us, e, AV.stays_rep h xs _ hm k1⟩
  | .clo _ x y, _, hm, ⟨xs, ys, e, k1, k2⟩ => ⟨xs, ys, e, AV.stays_rep h x _ hm.1 k1, AV.stays_rep h y _ hm.2 k2⟩
  | .iface _ x, _, hm, ⟨y, e, k1⟩ => ⟨y, e, AV.stay_rep h x y hm k1⟩
theorem AV.stays_rep {T : List Nat} {E : List AV} {L L' : Lay} {w w' : World} (h : Stays T E L w L' w') : ∀ (xs : List AV) (us : List Value), AV.stays T E xs → AReps L w xs us → AReps L' w' xs us
  | [], _, _, hr => hr
  | x :: xs, _, hm, ⟨u, ut, e, k1, k2⟩ => ⟨u, ut, e, AV.stay_rep h x u hm.1 k1, AV.stays_rep h xs ut hm.2 k2⟩
end

end Go.E

namespace Go.E
open Go Go.RowKit

theorem ownsRow_prefix {w : World} {e s n m : Nat} {b cap : Nat} {xs news : List Value} (h0 : xs.length = n * s) (h : w.ownsRow 0 e s (.slice (some ⟨b, 0, none⟩) (n + m) cap) (n + m) (xs ++ news)) : w.ownsRow 0 e s (.slice (some ⟨b, 0, none⟩) n cap) n xs := by
  refine ⟨h0, ?_⟩
  rcases h.2 with ⟨q, _⟩ | ⟨g, cap', cur, q1, q2, q3, q4, q5, q6, q7⟩
  · cases q
  · cases q1
    refine .inr ⟨_, _, cur, rfl, q2, q3, by omega, q5, q6, ?_⟩
    have : (cur.toList.take ((n + m) * s)).take (n * s) = xs := by rw [q7, ← h0]; simp
    rwa [List.take_take, Nat.min_eq_left (Nat.mul_le_mul_right _ (by omega))] at this
theorem append_run_old {P : Program} {t ty e s y : Nat} (hT : rowTy P t = some (e, s, y)) {w : World} {v u : Value} {n m : Nat} {xs news : List Value} (hown : w.ownsRow 0 e s v n xs)
    (hu : (u = .slice none 0 0 ∧ m = 0 ∧ news = []) ∨ ∃ b o p c, u = .slice (some ⟨b, o, p⟩) m c ∧ news.length = m * s ∧ (∀ j v, news[j]? = some v → w.cell? ((⟨b, o, p⟩ : Addr).add j) = some v))
    (h1 : ∀ v ∈ news, v.oneCell' = true) (hm : n + m ≤ maxLen) (hb : (n + m) * y ≤ 140737488355328) :
    ∃ v' w', (Builtin.append_ #[t, t] ty #[v, u]).run P w = .ok v' w' ∧ w'.ownsRow 0 e s v' (n + m) (xs ++ news) ∧ Grown w w' v v' ∧ w'.ownsRow 0 e s v n xs := by
  obtain ⟨v', w', hrun, ho, hg⟩ := append_run (ty := ty) hT hown hu h1 hm hb
  refine ⟨v', w', hrun, ho, hg, ?_⟩
  obtain ⟨i, z, g1, g2, g3, g4, g5, g6, g7⟩ := rowTy_spec hT
  rcases hown.2 with ⟨rfl, rfl⟩ | ⟨g, cap, cur, rfl, hbg, hgc, hnc, hcm, hcs, htake⟩
  · have hx : xs = [] := List.eq_nil_of_length_eq_zero (by simpa using hown.1)
    subst hx
    exact World.ownsRow_nil _ _ _ _
  · rcases hu with ⟨rfl, rfl, rfl⟩ | ⟨b, o, p, c, rfl, hl, hnews⟩
    · have hr := run_append_owned_none (P := P) w 0 t ty e i s g1 g2 _ n xs hown
      rw [hrun] at hr
      simp at hr
      obtain ⟨rfl, rfl⟩ := hr
      exact hown
    · subst g6
      have h63 : n + m ≤ 9223372036854775807 := by simp only [maxLen] at hm; omega
      by_cases hroom : n + m ≤ cap
      · have hfit : n * i.size + news.length ≤ cur.size := by rw [hl, hcs, ← Nat.add_mul]; exact Nat.mul_le_mul_right _ hroom
        have hr := run_append_room (P := P) w t ty e i g1 g2 g n cap cur hgc ⟨b, o, p⟩ m c news hl hnews h1 hroom hfit
        rw [hrun] at hr
        simp at hr
        obtain ⟨rfl, rfl⟩ := hr
        exact ownsRow_prefix hown.1 ho
      · have holds : ∀ j u, xs[j]? = some u → w.cell? ((⟨g, 0, none⟩ : Addr).add j) = some u := hown.cells (g := g) rfl
        have hr := run_append_grow (P := P) w t ty e i z g1 g2 g3 ⟨g, 0, none⟩ n cap xs hown.1 holds ⟨b, o, p⟩ m c news hl hnews (by omega) (by omega) (growslice_fits (by omega) (by rw [g7]; exact hb))
        rw [hrun] at hr
        simp only [Result.ok.injEq] at hr
        obtain ⟨_, rfl⟩ := hr
        refine ⟨hown.1, .inr ⟨g, cap, cur, rfl, hbg, ?_, hnc, hcm, hcs, htake⟩⟩
        exact (RowKit.Below.heap_alloc w.drew _ g (lt_of_heap hgc)).trans hgc

def AV.frz (g e s : Nat) (x : AV) : AV :=
  match x with
  | .own g' e' s' rows => if g' = g then (if e' = e ∧ s' = s then .d (.sl s rows) else .any) else x
  | x => if x.men g = true then .any else x
def Sto.frz (g e s : Nat) : Sto → Sto
  | [] => []
  | (h, c) :: r => (h, c.map (AV.frz g e s)) :: Sto.frz g e s r
theorem Sto.get_frz {g e s h : Nat} : ∀ {S : Sto}, (S.frz g e s).get h = (S.get h).map (fun c => c.map (AV.frz g e s))
  | [] => rfl
  | (k, c) :: r => by
    simp only [Sto.frz, Sto.get]
    split
    · rfl
    · exact Sto.get_frz
mutual
theorem AV.men_stay {g : Nat} : ∀ (x : AV), x.men g = false → x.stay [g] []
  | .any, _ => trivial
  | .d _, _ => trivial
  | .own g' _ _ _, h => .inl (by simpa [AV.men] using h)
  | .eref g' _ _ _ _ _, h => .inl (by simpa [AV.men] using h)
  | .ref g' _, h => .inl (by simpa [AV.men] using h)
  | .mp g', h => .inl (by simpa [AV.men] using h)
  | .it g', h => .inl (by simpa [AV.men] using h)
  | .bx g' _ _, h => .inl (by have h : (g' == g) = false := h; show [g].contains g' = false; simpa using h)
  | .yld g' _ _ _ _, h => (by have h : (g' == g) = false := h; show [g].contains g' = false; simpa using h)
  | .tup xs, h => AV.mens_stay xs h
  | .agg xs, h => AV.mens_stay xs h
  | .clo _ x y, h => by
    simp only [AV.men, Bool.or_eq_false_iff] at h
    exact ⟨AV.mens_stay x h.1, AV.mens_stay y h.2⟩
  | .iface _ x, h => AV.men_stay x h
theorem AV.mens_stay {g : Nat} : ∀ (xs : List AV), AV.mens g xs = false → AV.stays [g] [] xs
  | [], _ => trivial
  | x :: xs, h => by
    simp only [AV.mens, Bool.or_eq_false_iff] at h
    exact ⟨AV.men_stay x h.1, AV.mens_stay xs h.2⟩
end

theorem ownRow_data {g e s : Nat} {L : Lay} {w : World} {rows : List (List D)} {u : Value} {F : Nat → Prop} (h : OwnRow L w g e s rows u) (hF : ∀ b, L.own b = none ∨ L.own b = some g → F b) : DRep (look F w) (.sl s rows) u := by
  obtain ⟨xs, h1, h2, h3, h4, h5⟩ := h
  have hle : (L.mem w).le (look F w) := look_le fun b hb _ => ⟨hF b (.inl hb), rfl⟩
  rcases h1.2 with ⟨e1, e2⟩ | ⟨b, cap, cur, e1, _, e3, e4, e5, e6, e7⟩
  · exact ⟨none, 0, 0, e1, e2.symm, Nat.le_refl _, .inl ⟨rfl, rfl, rfl⟩⟩
  · refine ⟨_, _, _, e1, rfl, e4, .inr ⟨b, 0, rfl, DRows.of_get fun i r hi => ?_⟩⟩
    have hrl := h3 r (List.mem_of_getElem? hi)
    refine ⟨hrl, DCells.of_get fun j d hd => ?_⟩
    have hj : j < s := by rw [← hrl]; exact (List.getElem?_eq_some_iff.1 hd).1
    have hf := flat_get h3 i j r hi hj
    rw [hd] at hf
    obtain ⟨x, hx, hdx⟩ := h5.get _ d hf
    refine ⟨x, look_some.2 ⟨hF b (.inr (h2 b (by rw [e1]; rfl))), ?_⟩, h4 x (List.mem_of_getElem? hx), DRep.mono hle _ _ hdx⟩
    have := h1.cells (g := b) (by rw [e1]; rfl) (i * s + j) x hx
    rw [add_none] at this
    simpa using this

section
variable {P : Program} {W0 : World} {L0 L : Lay} {env : List AV} {S : Sto} {w : World} {a : Act}
theorem mk_append_frz {dst type pos after guard} (hr : Rel W0 L0 L env S w a) (x y : Operand) {t g e s b : Nat} {rows : List (List D)} (hT : rowTy P t = some (e, s, b)) (hx : aval env x = .own g e s rows) (hg : g ≠ 0) (hgs : S.get g = none) (hy : (aval env y).isSl s)
    (hm : (rows.length + (aval env y).rows.length) * b ≤ 140737488355328) (hm2 : rows.length + (aval env y).rows.length ≤ maxLen) :
    Mk P W0 L0 a w ⟨dst, .call ⟨.builtin .append, #[x, y], #[t, t]⟩, type, pos, after, guard⟩ (env.map (AV.frz g e s)) (S.frz g e s) (.d (.sl s (rows ++ (aval env y).rows))) := by
  have rx := aval_rep hr.slots x
  have ry := src_rep hy (aval_rep hr.slots y)
  rw [hx] at rx
  generalize aval env y = q at *
  obtain ⟨rhd, xs, hown, hbl, hls, hone, hd⟩ := rx
  obtain ⟨news, hl, hn1, hnd, hsrc, hlen⟩ : ∃ news : List Value, news.length = q.rows.length * s ∧ (∀ v ∈ news, v.oneCell' = true) ∧ DReps (L.mem w) q.rows.flatten news ∧
      ((a.eval y = .slice none 0 0 ∧ q.rows.length = 0 ∧ news = []) ∨ ∃ b o p c, a.eval y = .slice (some ⟨b, o, p⟩) q.rows.length c ∧ news.length = q.rows.length * s ∧ (∀ j v, news[j]? = some v → w.cell? ((⟨b, o, p⟩ : Addr).add j) = some v)) ∧
      ∀ r ∈ q.rows, r.length = s := by
    rcases ry with ⟨h1, h2⟩ | ⟨b, o, p, c, us, h1, h2, h3, h4, h5, h6⟩
    · exact ⟨[], by simp [h2], (fun v hv => by cases hv), by rw [h2]; rfl, .inl ⟨h1, by simp [h2], rfl⟩, by rw [h2]; intro r hr; cases hr⟩
    · exact ⟨us, h2, h4, h5, .inr ⟨b, o, p, c, h1, h2, h3⟩, h6⟩
  obtain ⟨v', w', hrun, ho, hgr, hold⟩ := append_run_old (ty := type) hT hown hsrc hn1 hm2 hm
  let L' : Lay := { L with own := fun b => if L.own b = some g then none else L.own b }
  have hne : ∀ b, b < w.heap.size → L.own b ≠ some g → w'.heap[b]? = w.heap[b]? := fun b hb hne => hgr.heap b hb (fun e => hne (hbl b e))
  have hle0 : (L.mem w).le (look (fun b => L.own b = none) w') := look_le fun b hb hlt => ⟨hb, hne b hlt (by rw [hb]; simp)⟩
  have hle : (L.mem w).le (L'.mem w') := look_le fun b hb hlt => ⟨by simp [L', hb], hne b hlt (by rw [hb]; simp)⟩
  have hmono : ∀ d u, DRep (L.mem w) d u → DRep (L'.mem w') d u := fun d u h => DRep.mono hle d u h
  -- the old one, and the new one, as data
  have hL : ∀ (b : Nat), L.own b = none ∨ L.own b = some g → L'.own b = none := fun b hb => by
    simp only [L']; rcases hb with h | h <;> simp [h]
  have hnewown : ∀ b, w.heap.size ≤ b → L.own b = none := fun b hb => by
    cases h : L.own b with
    | none => rfl
    | some g' => have := hr.own_lt b g' h; omega
  have dold : DRep (L'.mem w') (.sl s rows) (a.eval x) := by
    let L2 : Lay := L
    exact ownRow_data (L := L) (w := w') (g := g) (e := e) ⟨xs, hold, hbl, hls, hone, DReps.mono hle0 _ _ hd⟩ hL
  have dnew : DRep (L'.mem w') (.sl s (rows ++ q.rows)) v' := by
    let L2 : Lay := { L with own := fun b => if v'.ownBlock = some b then some g else L.own b }
    have hle2 : (L.mem w).le (L2.mem w') := look_le fun b hb hlt => ⟨by
      simp only [L2]
      split
      · rename_i e1
        rcases hgr.block b e1 with h | h
        · rw [hbl b h] at hb; cases hb
        · omega
      · exact hb, hne b hlt (by rw [hb]; simp)⟩
    refine ownRow_data (L := L2) (w := w') (g := g) (e := e) ⟨xs ++ news, by rw [List.length_append]; exact ho, fun b hb => by simp [L2, hb], fun r hr => by rcases List.mem_append.1 hr with h | h; exact hls r h; exact hlen r h, fun v hv => by rcases List.mem_append.1 hv with h | h; exact hone v h; exact hn1 v h, ?_⟩ fun b hb => ?_
    · rw [List.flatten_append]; exact (DReps.mono hle2 _ _ hd).append (DReps.mono hle2 _ _ hnd)
    · simp only [L2] at hb
      by_cases hvb : v'.ownBlock = some b
      · rcases hgr.block b hvb with h | h
        · exact hL b (.inr (hbl b h))
        · exact hL b (.inl (hnewown b h))
      · rw [if_neg hvb] at hb
        exact hL b hb
  have hst : Stays [g] [] L w L' w' :=
    { heap := fun b hb hn => by
        have hng : L.own b ≠ some g := fun e => by have := hn g e; simp at this
        exact ⟨hne b hb hng, by simp only [L']; rw [if_neg hng]⟩
      blk := fun _ _ => rfl, hdr := fun _ _ => rfl, lk := rfl, E := fun x hx => by cases hx }
  have frz : ∀ (z : AV) (u : Value), ARep L w z u → ARep L' w' (z.frz g e s) u := fun z u hz => by
    unfold AV.frz
    split
    · rename_i g' e' s' rows'
      split
      · rename_i e1; subst e1
        split
        · rename_i e2; obtain ⟨rfl, rfl⟩ := e2
          obtain ⟨k0, ys, k1, k2, k3, k4, k5⟩ := hz
          have hu : u = a.eval x := k0.trans rhd.symm
          subst hu
          have hyx : rows'.length = rows.length ∧ ys = xs := by
            rcases k1.2 with ⟨q1, q2⟩ | ⟨b1, c1, r1, q1, _, q3, _, _, _, q7⟩
            · rcases hown.2 with ⟨_, p2⟩ | ⟨_, _, _, p1, _⟩
              · have h1 : ys = [] := List.eq_nil_of_length_eq_zero (by rw [k1.1, q2, Nat.zero_mul])
                have h2 : xs = [] := List.eq_nil_of_length_eq_zero (by rw [hown.1, p2, Nat.zero_mul])
                exact ⟨by omega, by rw [h1, h2]⟩
              · rw [q1] at p1; cases p1
            · rcases hown.2 with ⟨p1, _⟩ | ⟨b2, c2, r2, p1, _, p3, _, _, _, p7⟩
              · rw [q1] at p1; cases p1
              · rw [q1] at p1
                simp only [Value.slice.injEq, Option.some.injEq, Addr.mk.injEq, and_true] at p1
                obtain ⟨rfl, hn, rfl⟩ := p1
                rw [q3] at p3; cases p3
                exact ⟨hn, by rw [← q7, ← p7, hn]⟩
          obtain ⟨hn, rfl⟩ := hyx
          exact ownRow_data (L := L) (w := w') (g := g') (e := e') ⟨ys, by rw [hn]; exact hold, hbl, k3, k4, DReps.mono hle0 _ _ k5⟩ hL
        · trivial
      · rename_i hne'
        exact AV.stay_rep hst _ u (.inl (by simpa using hne')) hz
    · split
      · trivial
      · rename_i h; exact AV.stay_rep hst _ u (AV.men_stay _ (by simpa using h)) hz
  have frzs : ∀ (zs : List AV) (us : List Value), AReps L w zs us → AReps L' w' (zs.map (AV.frz g e s)) us := by
    intro zs
    induction zs with
    | nil => intro us h; exact h
    | cons z zs ih => intro us ⟨u, ut, e1, k1, k2⟩; exact ⟨u, ut, e1, frz z u k1, ih ut k2⟩
  have h0 : ∀ b, L.own b = some 0 → L'.own b = some 0 := fun b hb => by simp only [L']; rw [hb, if_neg (by simpa using hg.symm)]
  refine ⟨v', w', L', by simp [execOp, resolve, invoke, builtin, hrun], ?_, dnew⟩
  exact
    { slots := frzs _ _ hr.slots
      hid := hr.hid
      mks := ⟨hr.mks.1, fun r hr' => by
        obtain ⟨q1, q2⟩ := hr.mks.2 r hr'
        exact ⟨(hne r (lt_of_heap q1) (by rw [q2]; simpa using hg.symm)).trans q1, h0 r q2⟩⟩
      mkb := hr.mkb
      kept := fun b o hb => by
        obtain ⟨⟨o', q1, q3⟩, q2⟩ := hr.kept b o hb
        exact ⟨⟨o', (hne b (lt_of_heap q1) (by rw [q2]; simpa using hg.symm)).trans q1, q3⟩, h0 b q2⟩
      rdk := hr.rdk
      lke := hr.lke
      lkb := fun g r hg => ⟨(hr.lkb g r hg).1, (hr.lkb g r hg).2.1, Nat.lt_of_lt_of_le (hr.lkb g r hg).2.2 hgr.size⟩
      lki := hr.lki
      rd := hr.rd
      objs := fun h c hc => by
        rw [Sto.get_frz] at hc
        obtain ⟨c0, hc0, rfl⟩ := Option.map_eq_some_iff.1 hc
        refine ⟨fun hh => frzs _ _ ((hr.objs h c0 hc0).1 hh), fun hh => ?_⟩
        obtain ⟨ws, k1, k2⟩ := (hr.objs h c0 hc0).2 hh
        have hhg : h ≠ g := fun e1 => by subst e1; rw [hgs] at hc0; cases hc0
        exact ⟨ws, k1.congr rfl (fun _ => rfl) (fun b hb ho => by
          have hng : L.own b ≠ some g := by rcases ho with ho | ho <;> rw [ho] <;> simp <;> first | exact hhg | exact hg.symm
          exact ⟨hne b hb hng, by simp only [L']; rw [if_neg hng]⟩), frzs _ _ k2⟩
      old := fun b hb h1 => by
        have q := hr.old b hb h1
        have hng : L.own b ≠ some g := fun e1 => hr.not_old hg b hb e1 h1
        exact ⟨by simp only [L']; rw [if_neg hng]; exact q.1, (hne b (Nat.lt_of_lt_of_le hb hr.size) hng).trans q.2⟩
      size := Nat.le_trans hr.size hgr.size
      own_lt := fun b g' hb => by
        simp only [L'] at hb
        split at hb
        · cases hb
        · exact Nat.lt_of_lt_of_le (hr.own_lt b g' hb) hgr.size
      os := hgr.os.trans hr.os
      tape := hgr.tape.trans hr.tape
      output := hgr.output.trans hr.output }
end
end Go.E

namespace Go.E
open Go Go.RowKit

theorem frz_rel {W0 : World} {L0 L : Lay} {e : List AV} {s : Sto} {w : World} {a : Act} (hr : Rel W0 L0 L e s w a) {g el sz : Nat} (hg : g ≠ 0) (hgs : s.get g = none) :
    ∃ L', Rel W0 L0 L' (e.map (AV.frz g el sz)) (s.frz g el sz) w a ∧ (∀ (zs : List AV) (us : List Value), AReps L w zs us → AReps L' w (zs.map (AV.frz g el sz)) us) ∧ (∀ b, L.own b = none → L'.own b = none) ∧ (∀ b k, L.own b = some k → L'.own b = some k ∨ L'.own b = none) ∧ ∀ b, L.own b = some g → L'.own b = none := by
  let L' : Lay := { L with own := fun b => if L.own b = some g then none else L.own b }
  have hL : ∀ (b : Nat), L.own b = none ∨ L.own b = some g → L'.own b = none := fun b hb => by
    simp only [L']; rcases hb with h | h <;> simp [h]
  have hst : Stays [g] [] L w L' w :=
    { heap := fun b hb hn => by
        have hng : L.own b ≠ some g := fun e => by have := hn g e; simp at this
        exact ⟨rfl, by simp only [L']; rw [if_neg hng]⟩
      blk := fun _ _ => rfl, hdr := fun _ _ => rfl, lk := rfl, E := fun x hx => by cases hx }
  have frz : ∀ (z : AV) (u : Value), ARep L w z u → ARep L' w (z.frz g el sz) u := fun z u hz => by
    unfold AV.frz
    split
    · rename_i g' e' s' rows'
      split
      · rename_i e1; subst e1
        split
        · rename_i e2; obtain ⟨rfl, rfl⟩ := e2
          exact ownRow_data (L := L) (w := w) (g := g') (e := e') hz.2 hL
        · trivial
      · rename_i hne'
        exact AV.stay_rep hst _ u (.inl (by simpa using hne')) hz
    · split
      · trivial
      · rename_i h; exact AV.stay_rep hst _ u (AV.men_stay _ (by simpa using h)) hz
  have frzs : ∀ (zs : List AV) (us : List Value), AReps L w zs us → AReps L' w (zs.map (AV.frz g el sz)) us := by
    intro zs
    induction zs with
    | nil => intro us h; exact h
    | cons z zs ih => intro us ⟨u, ut, e1, k1, k2⟩; exact ⟨u, ut, e1, frz z u k1, ih ut k2⟩
  have h0 : ∀ b, L.own b = some 0 → L'.own b = some 0 := fun b hb => by simp only [L']; rw [hb, if_neg (by simpa using hg.symm)]
  refine ⟨L', ?_, frzs, fun b hb => hL b (.inl hb), fun b k hb => ?_, fun b hb => hL b (.inr hb)⟩
  rotate_left
  · simp only [L']; split
    · exact .inr rfl
    · exact .inl hb
  exact
    { slots := frzs _ _ hr.slots
      hid := hr.hid
      mks := ⟨hr.mks.1, fun r hr' => ⟨(hr.mks.2 r hr').1, h0 r (hr.mks.2 r hr').2⟩⟩
      mkb := hr.mkb
      kept := fun b o hb => ⟨(hr.kept b o hb).1, h0 b (hr.kept b o hb).2⟩
      rdk := hr.rdk
      lke := hr.lke
      lkb := hr.lkb
      lki := hr.lki
      rd := hr.rd
      objs := fun h c hc => by
        rw [Sto.get_frz] at hc
        obtain ⟨c0, hc0, rfl⟩ := Option.map_eq_some_iff.1 hc
        refine ⟨fun hh => frzs _ _ ((hr.objs h c0 hc0).1 hh), fun hh => ?_⟩
        obtain ⟨ws, k1, k2⟩ := (hr.objs h c0 hc0).2 hh
        have hhg : h ≠ g := fun e1 => by subst e1; rw [hgs] at hc0; cases hc0
        exact ⟨ws, k1.congr rfl (fun _ => rfl) (fun b hb ho => by
          have hng : L.own b ≠ some g := by rcases ho with ho | ho <;> rw [ho] <;> simp <;> first | exact hhg | exact hg.symm
          exact ⟨rfl, by simp only [L']; rw [if_neg hng]⟩), frzs _ _ k2⟩
      old := fun b hb h1 => by
        have q := hr.old b hb h1
        have hng : L.own b ≠ some g := fun e1 => hr.not_old hg b hb e1 h1
        exact ⟨by simp only [L']; rw [if_neg hng]; exact q.1, q.2⟩
      size := hr.size
      own_lt := fun b g' hb => by
        simp only [L'] at hb
        split at hb
        · cases hb
        · exact hr.own_lt b g' hb
      os := hr.os
      tape := hr.tape
      output := hr.output }
def frzEs : List (Nat × Nat × Nat) → List AV → List AV
  | [], e => e
  | (g, el, sz) :: r, e => frzEs r (e.map (AV.frz g el sz))
def frzSs : List (Nat × Nat × Nat) → Sto → Sto
  | [], s => s
  | (g, el, sz) :: r, s => frzSs r (s.frz g el sz)
def okFz (s : Sto) : List (Nat × Nat × Nat) → Prop
  | [] => True
  | (g, _, _) :: r => (g ≠ 0 ∧ s.get g = none) ∧ okFz s r
theorem okFz_frz {s : Sto} {g el sz : Nat} : ∀ {T : List (Nat × Nat × Nat)}, okFz s T → okFz (s.frz g el sz) T
  | [], _ => trivial
  | (h, _, _) :: r, ⟨⟨h1, h2⟩, h3⟩ => ⟨⟨h1, by rw [Sto.get_frz, h2]; rfl⟩, okFz_frz h3⟩
theorem frz_rels : ∀ (T : List (Nat × Nat × Nat)) {W0 : World} {L0 L : Lay} {e : List AV} {s : Sto} {w : World} {a : Act}, okFz s T → Rel W0 L0 L e s w a →
    ∃ L', Rel W0 L0 L' (frzEs T e) (frzSs T s) w a ∧ (∀ (zs : List AV) (us : List Value), AReps L w zs us → AReps L' w (frzEs T zs) us) ∧ (∀ b, L.own b = none → L'.own b = none) ∧ ∀ p ∈ T, ∀ b, L.own b = some p.1 → L'.own b = none
  | [], _, _, L, _, _, _, _, _, hr => ⟨L, hr, fun _ _ h => h, fun _ h => h, fun p hp => by cases hp⟩
  | (g, el, sz) :: r, _, _, L, e, s, w, a, ⟨⟨h1, h2⟩, h3⟩, hr => by
    obtain ⟨L1, k1, k2, k3, k4, k5⟩ := frz_rel (el := el) (sz := sz) hr h1 h2
    obtain ⟨L2, q1, q2, q3, q4⟩ := frz_rels r (okFz_frz h3) k1
    refine ⟨L2, q1, fun zs us h => q2 _ _ (k2 zs us h), fun b hb => q3 b (k3 b hb), fun p hp b hb => ?_⟩
    rcases List.mem_cons.1 hp with rfl | hp
    · exact q3 b (k5 b hb)
    · rcases k4 b _ hb with h | h
      · exact q4 p hp b h
      · exact q3 b h

mutual
def AV.owns : AV → List (Nat × Nat × Nat)
  | .own g e s _ => [(g, e, s)]
  | .agg xs => AV.ownsL xs
  | _ => []
def AV.ownsL : List AV → List (Nat × Nat × Nat)
  | [] => []
  | x :: xs => x.owns ++ AV.ownsL xs
end
mutual
def AV.datF : AV → Option D
  | .d x => some x
  | .own _ _ s rows => some (.sl s rows)
  | .agg xs => (AV.datFs xs).map .agg
  | _ => none
def AV.datFs : List AV → Option (List D)
  | [] => some []
  | x :: xs => match x.datF, AV.datFs xs with
    | some y, some ys => some (y :: ys)
    | _, _ => none
end
mutual
theorem AV.datF_rep {L L' : Lay} {w : World} (h0 : ∀ b, L.own b = none → L'.own b = none) : ∀ (x : AV) (u : Value) (y : D), ARep L w x u → x.datF = some y → (∀ p ∈ x.owns, ∀ b, L.own b = some p.1 → L'.own b = none) → DRep (L'.mem w) y u
  | .d x, u, y, hr, hd, _ => by
    simp only [AV.datF, Option.some.injEq] at hd; subst hd
    exact DRep.mono (look_le fun b hb _ => ⟨h0 b hb, rfl⟩) _ _ hr
  | .own g e s rows, u, y, hr, hd, ho => by
    simp only [AV.datF, Option.some.injEq] at hd; subst hd
    exact ownRow_data (L := L) (w := w) (g := g) (e := e) hr.2 fun b hb => by
      rcases hb with hb | hb
      · exact h0 b hb
      · exact ho (g, e, s) (by simp [AV.owns]) b hb
  | .agg xs, u, y, ⟨us, e, k⟩, hd, ho => by
    simp only [AV.datF, Option.map_eq_some_iff] at hd
    obtain ⟨ds, hds, rfl⟩ := hd
    exact ⟨us, e, AV.datFs_rep h0 xs _ ds k hds ho⟩
  | .any, _, _, _, hd, _ => by simp [AV.datF] at hd
  | .eref _ _ _ _ _ _, _, _, _, hd, _ => by simp [AV.datF] at hd
  | .ref _ _, _, _, _, hd, _ => by simp [AV.datF] at hd
  | .tup _, _, _, _, hd, _ => by simp [AV.datF] at hd
  | .clo _ _ _, _, _, _, hd, _ => by simp [AV.datF] at hd
  | .iface _ _, _, _, _, hd, _ => by simp [AV.datF] at hd
  | .yld _ _ _ _ _, _, _, _, hd, _ => by simp [AV.datF] at hd
  | .mp _, _, _, _, hd, _ => by simp [AV.datF] at hd
  | .it _, _, _, _, hd, _ => by simp [AV.datF] at hd
  | .bx _ _ _, _, _, _, hd, _ => by simp [AV.datF] at hd
theorem AV.datFs_rep {L L' : Lay} {w : World} (h0 : ∀ b, L.own b = none → L'.own b = none) : ∀ (xs : List AV) (us : List Value) (ds : List D), AReps L w xs us → AV.datFs xs = some ds → (∀ p ∈ AV.ownsL xs, ∀ b, L.own b = some p.1 → L'.own b = none) → DReps (L'.mem w) ds us
  | [], us, ds, hr, hd, _ => by
    simp only [AV.datFs, Option.some.injEq] at hd; subst hd; exact hr
  | x :: xs, _, ds, ⟨u, ut, e, k1, k2⟩, hd, ho => by
    simp only [AV.datFs] at hd
    split at hd
    · rename_i y ds' h1 h2
      simp only [Option.some.injEq] at hd; subst hd
      exact ⟨u, ut, e, AV.datF_rep h0 x u y k1 h1 fun p hp => ho p (by simp [AV.ownsL, hp]), AV.datFs_rep h0 xs ut ds' k2 h2 fun p hp => ho p (by simp [AV.ownsL, hp])⟩
    · cases hd
end
def ownsP (A : Operand → AV) : List (Nat × Operand) → List (Nat × Nat × Nat)
  | [] => []
  | (_, x) :: r => (A x).owns ++ ownsP A r
def datA (A : Operand → AV) (x : Operand) : AV := match (A x).datF with | some d => .d d | none => .any
open Classical in
noncomputable def datP (A : Operand → AV) (ps : List (Nat × Operand)) (x : Operand) : AV := if ∃ p ∈ ps, p.2 = x then datA A x else .any
theorem ownsP_mem {A : Operand → AV} : ∀ {ps : List (Nat × Operand)} {x : Operand}, (∃ p ∈ ps, p.2 = x) → ∀ q ∈ (A x).owns, q ∈ ownsP A ps
  | [], _, ⟨_, h, _⟩, _, _ => by cases h
  | (i, y) :: ps, x, ⟨p, hp, e⟩, q, hq => by
    unfold ownsP
    rcases List.mem_cons.1 hp with rfl | hp
    · exact List.mem_append_left _ (by rw [show y = x from e]; exact hq)
    · exact List.mem_append_right _ (ownsP_mem ⟨p, hp, e⟩ q hq)
theorem datP_at {A : Operand → AV} {ps : List (Nat × Operand)} {p : Nat × Operand} (h : p ∈ ps) : datP A ps p.2 = datA A p.2 := if_pos ⟨p, h, rfl⟩
theorem bsS_congr {A B : Operand → AV} {s n : Nat} : ∀ {l : List (Nat × Operand)}, (∀ p ∈ l, B p.2 = A p.2) → bsS A s n l → bsS B s n l
  | [], _, _ => trivial
  | (i, x) :: r, h, ⟨h1, h2⟩ => ⟨by rw [h (i, x) (by simp)]; exact h1, bsS_congr (fun p hp => h p (by simp [hp])) h2⟩
theorem bsV_congr {A B : Operand → AV} : ∀ {l : List (Nat × Operand)} {rows : List (List D)}, (∀ p ∈ l, B p.2 = A p.2) → bsV B l rows = bsV A l rows
  | [], _, _ => rfl
  | (i, x) :: r, rows, h => by
    unfold bsV
    rw [h (i, x) (by simp)]
    exact bsV_congr (fun p hp => h p (by simp [hp]))
theorem bsS_datP (A : Operand → AV) (s n : Nat) (l : List (Nat × Operand)) (h : bsS (datA A) s n l) : bsS (datP A l) s n l := bsS_congr (fun _ hp => datP_at hp) h
theorem bsV_datP {A : Operand → AV} {l : List (Nat × Operand)} {rows : List (List D)} : bsV (datP A l) l rows = bsV (datA A) l rows := bsV_congr fun _ hp => datP_at hp
end Go.E

namespace Go.E
open Go

section
variable {P : Program} {X : List Nat} {L : Lay} {w : World} {ρ : Operand → Value} {A : Operand → AV}

def strV (op : BinOp) (x y : AV) : AV :=
  let eq := x.str.toList == y.str.toList
  let lt := Op.bytesLess x.str.toList y.str.toList
  match op with
  | .add => .d (.v (.string (x.str ++ y.str)))
  | .eql => .b eq
  | .neq => .b (!eq)
  | .lss => .b lt
  | .leq => .b (lt || eq)
  | .gtr => .b (!(lt || eq))
  | .geq => .b (!lt)
  | _ => .any
def strS (op : BinOp) (x y : AV) : Prop := x.isStr ∧ y.isStr ∧ match op with | .add => x.str.size + y.str.size ≤ 9223372036854775807 | .eql | .neq | .lss | .leq | .gtr | .geq => True | _ => False
theorem yv_str {dst type pos after guard} (op : BinOp) (t t' : Nat) (x y : Operand) (hx : ARep L w (A x) (ρ x)) (hy : ARep L w (A y) (ρ y)) (hs : strS op (A x) (A y)) :
    Yv P X L w ρ ⟨dst, .binOp op t x y t', type, pos, after, guard⟩ (strV op (A x) (A y)) := by
  obtain ⟨ix, iy, hs⟩ := hs
  have ex := AV.isStr_rep ix hx
  have ey := AV.isStr_rep iy hy
  have hg : ∀ w' : World, (eqGuard op t x y (.string (A x).str) (.string (A y).str)).run P w' = .ok () w' := fun w' => by unfold eqGuard; split <;> rfl
  generalize A x = p at *
  generalize A y = q at *
  refine .of_all (v := match strV op p q with | .d (.v v) => v | _ => undef) (by cases op <;> first | exact rfl | exact trivial) fun w' => ?_
  simp only [execOp, ex, ey, Sem.run_bind, hg, Result.andThen_ok]
  cases op <;> simp only at hs
  case add =>
    have : ¬ ((p.str.size + q.str.size : Nat) : Int) > IntKind.i64.max := by simp [IntKind.max, IntKind.bits]; omega
    simp only [binOp, Op.stringOp, if_neg this, strV, Sem.run_bind, Sem.run_pure, Result.andThen_ok]
  all_goals simp [binOp, Op.stringOp, strV]

def bolV (op : BinOp) (x y : AV) : AV := match op with | .eql => .b (x.bool == y.bool) | .neq => .b (!(x.bool == y.bool)) | _ => .any
def bolS (op : BinOp) (x y : AV) : Prop := x.isBool ∧ y.isBool ∧ match op with | .eql | .neq => True | _ => False
theorem yv_bol {dst type pos after guard} (op : BinOp) (t t' : Nat) (x y : Operand) (hx : ARep L w (A x) (ρ x)) (hy : ARep L w (A y) (ρ y)) (ht : isBoolTy P t = true) (hs : bolS op (A x) (A y)) :
    Yv P X L w ρ ⟨dst, .binOp op t x y t', type, pos, after, guard⟩ (bolV op (A x) (A y)) := by
  obtain ⟨ix, iy, hs⟩ := hs
  have ex := AV.isBool_rep ix hx
  have ey := AV.isBool_rep iy hy
  have hu : P.underlying t = some .bool := by
    unfold isBoolTy at ht
    cases hu : P.underlying t with
    | none => simp [hu] at ht
    | some d => cases d <;> first | rfl | simp [hu] at ht
  have hg : ∀ w' : World, (eqGuard op t x y (.bool (A x).bool) (.bool (A y).bool)).run P w' = .ok () w' := fun w' => by unfold eqGuard; split <;> rfl
  generalize A x = p at *
  generalize A y = q at *
  refine .of_all (v := match bolV op p q with | .d (.v v) => v | _ => undef) (by cases op <;> first | exact rfl | exact trivial) fun w' => ?_
  have he : (Op.equal t (.bool p.bool) (.bool q.bool)).run P w' = .ok (p.bool == q.bool) w' := by
    show (Op.equalIn (9999 + 1) t _ _).run P w' = _
    rw [Op.equalIn]
    simp only [Sem.run_bind, run_underlying' hu, Result.andThen_ok, Sem.run_pure]
  simp only [execOp, ex, ey, Sem.run_bind, hg, Result.andThen_ok]
  cases op <;> simp only at hs
  case eql => simp only [binOp, Sem.run_bind, he, Result.andThen_ok, Sem.run_pure, bolV]
  case neq => simp only [binOp, Sem.run_bind, he, Result.andThen_ok, Sem.run_pure, bolV]

def binV (P : Program) (op : BinOp) (t : Nat) (x y : AV) : AV := if isStringTy P t = true then strV op x y else if isBoolTy P t = true then bolV op x y else (match stP P t with | some _ => stcV op x y | none => binI op x y)
def binS (P : Program) (op : BinOp) (t : Nat) (x y : AV) : Prop := if isStringTy P t = true then strS op x y else if isBoolTy P t = true then bolS op x y else (match stP P t with | some l => stcS l op x y | none => (x.isInt ∧ y.isInt ∧ binIs op x y))
theorem yv_bin {dst type pos after guard} (op : BinOp) (t t' : Nat) (x y : Operand) (hx : ARep L w (A x) (ρ x)) (hy : ARep L w (A y) (ρ y)) (hs : binS P op t (A x) (A y)) :
    Yv P X L w ρ ⟨dst, .binOp op t x y t', type, pos, after, guard⟩ (binV P op t (A x) (A y)) := by
  unfold binS at hs; unfold binV
  by_cases h1 : isStringTy P t = true
  · rw [if_pos h1] at hs ⊢; exact yv_str op t t' x y hx hy hs
  · rw [if_neg h1] at hs ⊢
    by_cases h2 : isBoolTy P t = true
    · rw [if_pos h2] at hs ⊢; exact yv_bol op t t' x y hx hy h2 hs
    · rw [if_neg h2] at hs ⊢
      cases h3 : stP P t with
      | some l => rw [h3] at hs; exact yv_stc op t t' x y hx hy h3 hs
      | none => rw [h3] at hs; exact yv_binI op t t' x y hx hy hs.1 hs.2.1 hs.2.2
def nilO : Operand → Nat
  | .const .nilIface => 1
  | .const (.pointer none) => 2
  | .const .nilFunc => 4
  | _ => 0
def nilTy (P : Program) (t : Nat) : Nat := match P.underlying t with | some (.interface _) => 1 | some (.pointer _) => 2 | some (.func _ _ _) => 4 | _ => 0
def nilX : AV → Nat × Bool
  | .d (.v .nilIface) => (1, true)
  | .d (.iface _ _) => (1, false)
  | .iface _ _ => (1, false)
  | .d (.v (.pointer none)) => (2, true)
  | .d (.ptr _ _) => (2, false)
  | .ref _ _ => (2, false)
  | .bx _ _ _ => (2, false)
  | .eref _ _ _ _ _ _ => (2, false)
  | .d (.v .nilFunc) => (4, true)
  | .d (.clo _ _ _) => (4, false)
  | .clo _ _ _ => (4, false)
  | _ => (0, false)
def nilV (op : BinOp) (x : AV) : AV := .b (match op with | .neq => !(nilX x).2 | _ => (nilX x).2)
def isEqB : BinOp → Prop | .eql => True | .neq => True | _ => False
def nilS (P : Program) (op : BinOp) (t : Nat) (y : Operand) (x z : AV) : Prop := ((nilTy P t = nilO y ∧ (nilX x).1 = nilO y) ∧ isEqB op) ∧ match y with | .const c => z = .d (.v c) | _ => False
theorem ei_1a (d t : Nat) {ms} (hu : P.underlying t = some (.interface ms)) (w' : World) : (Op.equalIn (d + 1) t .nilIface .nilIface).run P w' = .ok true w' := by simp [Op.equalIn, run_underlying hu]
theorem ei_1b (d t u : Nat) (v : Value) {ms} (hu : P.underlying t = some (.interface ms)) (w' : World) : (Op.equalIn (d + 1) t (.iface u v) .nilIface).run P w' = .ok false w' := by simp [Op.equalIn, run_underlying hu]
theorem ei_2a (d t : Nat) {ms} (hu : P.underlying t = some (.pointer ms)) (w' : World) : (Op.equalIn (d + 1) t (.pointer none) (.pointer none)).run P w' = .ok true w' := by simp [Op.equalIn, run_underlying hu]
theorem ei_2b (d t : Nat) (a : Addr) {ms} (hu : P.underlying t = some (.pointer ms)) (w' : World) : (Op.equalIn (d + 1) t (.pointer (some a)) (.pointer none)).run P w' = .ok false w' := by simp [Op.equalIn, run_underlying hu]
theorem ei_4a (d t : Nat) {a b c} (hu : P.underlying t = some (.func a b c)) (w' : World) : (Op.equalIn (d + 1) t .nilFunc .nilFunc).run P w' = .ok true w' := by simp [Op.equalIn, run_underlying hu]
theorem ei_4b (d t : Nat) (f : Fn) (x y : Array Value) {a b c} (hu : P.underlying t = some (.func a b c)) (w' : World) : (Op.equalIn (d + 1) t (.func f x y) .nilFunc).run P w' = .ok false w' := by simp [Op.equalIn, run_underlying hu]
theorem yv_nil {dst type pos after guard} (op : BinOp) (t t' : Nat) (x y : Operand) (hx : ARep L w (A x) (ρ x)) (hyr : ARep L w (A y) (ρ y)) (h0 : nilO y ≠ 0) (hs : nilS P op t y (A x) (A y)) :
    Yv P X L w ρ ⟨dst, .binOp op t x y t', type, pos, after, guard⟩ (nilV op (A x)) := by
  obtain ⟨⟨⟨h1, h2⟩, h3⟩, hy0⟩ := hs
  have hy : ∀ c, y = .const c → ρ y = c := by
    rintro c rfl
    have : A (.const c) = .d (.v c) := hy0
    rw [this] at hyr
    exact hyr
  have key : ∃ c, y = .const c ∧ (∀ op w', (eqGuard op t x y (ρ x) c).run P w' = .ok () w') ∧ (∀ w', (Op.equal t (ρ x) c).run P w' = .ok (nilX (A x)).2 w') ∧ (c = .nilIface ∨ c = .pointer none ∨ c = .nilFunc) := by
    unfold nilO at h0 h1 h2
    split at h0
    · refine ⟨_, rfl, fun op w' => ?_, fun w' => ?_, .inl rfl⟩
      · unfold eqGuard; split <;> (try rfl) <;> (generalize ρ x = v; cases v <;> first | rfl | (cases x <;> rfl))
      · simp only at h1 h2
        unfold nilTy at h1
        split at h1 <;> try omega
        rename_i ms hu
        generalize A x = q at *
        unfold nilX at h2 ⊢
        split at h2 <;> try (simp at h2; done)
        · rw [show ρ x = _ from hx]; exact ei_1a 9999 t hu w'
        · obtain ⟨v, e, _⟩ := hx; rw [e]; exact ei_1b 9999 t _ v hu w'
        · obtain ⟨v, e, _⟩ := hx; rw [e]; exact ei_1b 9999 t _ v hu w'
    · refine ⟨_, rfl, fun op w' => ?_, fun w' => ?_, .inr (.inl rfl)⟩
      · unfold eqGuard; split <;> (try rfl) <;> (generalize ρ x = v; cases v <;> first | rfl | (cases x <;> rfl))
      · simp only at h1 h2
        unfold nilTy at h1
        split at h1 <;> try omega
        rename_i ms hu
        generalize A x = q at *
        unfold nilX at h2 ⊢
        split at h2 <;> try (simp at h2; done)
        · rw [show ρ x = _ from hx]; exact ei_2a 9999 t hu w'
        · obtain ⟨b, o, e, _⟩ := hx; rw [e]; exact ei_2b 9999 t _ hu w'
        · rw [show ρ x = _ from hx.1]; exact ei_2b 9999 t _ hu w'
        · obtain ⟨_, _, _, _, e⟩ := hx; rw [e]; exact ei_2b 9999 t _ hu w'
        · obtain ⟨_, _, b, n, c, _, e⟩ := hx; rw [e]; exact ei_2b 9999 t _ hu w'
    · refine ⟨_, rfl, fun op w' => ?_, fun w' => ?_, .inr (.inr rfl)⟩
      · unfold eqGuard; split <;> (try rfl) <;> (generalize ρ x = v; cases v <;> first | rfl | (cases x <;> rfl))
      · simp only at h1 h2
        unfold nilTy at h1
        split at h1 <;> try omega
        rename_i ms hu
        generalize A x = q at *
        unfold nilX at h2 ⊢
        split at h2 <;> try (simp at h2; done)
        · rw [show ρ x = _ from hx]; exact ei_4a 9999 t hu w'
        · obtain ⟨_, _, e, _⟩ := hx; rw [e]; exact ei_4b 9999 t _ _ _ hu w'
        · obtain ⟨_, _, e, _⟩ := hx; rw [e]; exact ei_4b 9999 t _ _ _ hu w'
    · exact absurd rfl h0
  obtain ⟨c, rfl, hg, he, hc⟩ := key
  have hyc := hy c rfl
  have hb : ∀ op, (op = .eql ∨ op = .neq) → ∀ w', (binOp op t (ρ x) c).run P w' = .ok (.bool (match op with | .neq => !(nilX (A x)).2 | _ => (nilX (A x)).2)) w' := by
    rintro op (rfl | rfl) w'
    · rcases hc with rfl | rfl | rfl <;> simp [binOp, he]
    · rcases hc with rfl | rfl | rfl <;> simp [binOp, he]
  cases op <;> simp only [isEqB] at h3
  · refine .of_all (v := .bool (nilX (A x)).2) rfl fun w' => ?_
    simp only [execOp, hyc, Sem.run_bind, hg, Result.andThen_ok]
    simp [hb .eql (.inl rfl)]
  · refine .of_all (v := .bool (!(nilX (A x)).2)) rfl fun w' => ?_
    simp only [execOp, hyc, Sem.run_bind, hg, Result.andThen_ok]
    simp [hb .neq (.inr rfl)]
end

def callV (P : Program) (c : Call) (A : Operand → AV) : AV :=
  match c.callee, c.args.toList, c.argTypes.toList with
  | .builtin .len, [x], [t] => if isStringTy P t = true then .i (A x).str.size else .i (A x).rows.length
  | .builtin .max, [x, y], _ => .d (.v (.int (A x).kind (max (A x).int (A y).int)))
  | .builtin .min, [x, y], _ => .d (.v (.int (A x).kind (min (A x).int (A y).int)))
  | _, _, _ => .any
def callS (P : Program) (c : Call) (A : Operand → AV) : Prop :=
  match c.callee, c.args.toList, c.argTypes.toList with
  | .builtin .len, [x], [t] => if isStringTy P t = true then (A x).isStr else (isSliceTy P t = true ∧ (A x).isSlice)
  | .builtin .max, [x, y], _ => (A x).isInt ∧ (A y).isInt
  | .builtin .min, [x, y], _ => (A x).isInt ∧ (A y).isInt
  | _, _, _ => False
def k0call (c : Call) : Bool := match c.callee with | .builtin .len | .builtin .max | .builtin .min => true | _ => false

def pv (P : Program) (S : Sto) (op : Op) (A : Operand → AV) : AV :=
  match op with
  | .move x => A x
  | .assign x => A x
  | .pick c x y => gif (A c).bool (A x) (A y)
  | .binOp op t x y _ => if nilO y = 0 then binV P op t (A x) (A y) else nilV op (A x)
  | .unOp op _ x => unV op (A x)
  | .convert _ dst x => cvI P dst (A x)
  | .fieldAddr s x f => addF (A x) ((fo P s f).getD 0)
  | .nilCheck x => A x
  | .field s x f => (match fty P s f with | some (off, ag, n) => fieldV (A x) off ag n | none => .any)
  | .indexAddr t x i => (match ixs P t with | some _ => idxV (A x) (A i).int | none => addF (A x) ((A i).int.toNat * ((ixa P t).getD (0, 0)).2))
  | .load t x => loadV P S t (A x)
  | .extract x i => extV (A x) i
  | .makeInterface t x => ifV t (A x)
  | .makeFunc fn x y => cloV fn (x.toList.map A) (y.toList.map A)
  | .build t parts => AV.mkAgg (fillV P t A parts.toList (((zcells P t).getD []).map .d))
  | .slice t x lo hi _ => if isStringTy P t = true then .d (.v (.string ((A x).str.extract (optI A lo 0).toNat (optI A hi (A x).str.size).toNat))) else slcV (A x) (optI A lo 0).toNat (optI A hi (A x).rows.length).toNat
  | .index t x i => if isStringTy P t = true then .d (.v (.int .u8 ((A x).str.data.getD (A i).int.toNat 0).toNat)) else (match ixe P t with | some (_, ag, n) => fieldV (A x) ((A i).int.toNat * n) ag n | none => .any)
  | .typeAssert x _ t ok => asrt P (A x) t ok
  | .call c => callV P c A
  | _ => .any

def ps (P : Program) (S : Sto) (X : List Nat) (op : Op) (A : Operand → AV) : Prop :=
  match op with
  | .move _ => True
  | .assign _ => True
  | .pick c _ _ => (A c).isBool
  | .binOp op t x y _ => if nilO y = 0 then binS P op t (A x) (A y) else nilS P op t y (A x) (A y)
  | .unOp op _ x => unVs op (A x)
  | .convert src dst x => (intTy P dst).isSome = true ∧ (P.underlying src).isSome = true ∧ (A x).isInt
  | .fieldAddr s x f => (fo P s f).isSome = true ∧ (A x).isPtr
  | .nilCheck x => (A x).isPtr
  | .field s x f => (match fty P s f with | some (off, _, n) => fieldS (A x) off n | none => False)
  | .indexAddr t x i => (match ixs P t with | some s => (A x).isSl s ∧ (A i).isInt ∧ 0 ≤ (A i).int ∧ (A i).int < (A x).rows.length | none => (match ixa P t with | some (n, _) => (A x).isPtr ∧ (A i).isInt ∧ 0 ≤ (A i).int ∧ (A i).int < n | none => False))
  | .load t x => loadS P S X t (A x)
  | .extract x i => extS (A x) i
  | .makeInterface t _ => notIface P t = true
  | .makeFunc _ _ _ => True
  | .build t parts => placed P t = true ∧ (match zcells P t with | some zc => fillS P t A zc.length parts.toList | none => False)
  | .slice t x lo hi mx => mx = none ∧ optS A lo ∧ optS A hi ∧ 0 ≤ optI A lo 0 ∧ if isStringTy P t = true then ((A x).isStr ∧ optI A lo 0 ≤ optI A hi (A x).str.size ∧ optI A hi (A x).str.size ≤ (A x).str.size) else
      ((match ixs P t with | some s => (A x).isSlD s | none => False) ∧ optI A lo 0 ≤ optI A hi (A x).rows.length ∧ optI A hi (A x).rows.length ≤ (A x).rows.length)
  | .index t x i => if isStringTy P t = true then ((A x).isStr ∧ (A i).isInt ∧ 0 ≤ (A i).int ∧ (A i).int < (A x).str.size) else (match ixe P t with | some (m, _, n) => (A i).isInt ∧ 0 ≤ (A i).int ∧ (A i).int < m ∧ fieldS (A x) ((A i).int.toNat * n) n | none => False)
  | .typeAssert x _ t ok => asrtS P (A x) t ok
  | .call c => callS P c A
  | _ => False

def isNilSl : Operand → Bool
  | .const (.slice none 0 0) => true
  | _ => false
theorem isNilSl_eq {y : Operand} (h : isNilSl y = true) : y = .const (.slice none 0 0) := by
  unfold isNilSl at h
  split at h
  · rfl
  · cases h
def nlR (op : BinOp) (nil : Bool) : Bool := match op with | .neq => !nil | _ => nil
def nlC (x : AV) (R : Bool → Prop) : Prop :=
  match x with
  | .d (.v (.slice none 0 0)) => R true
  | .d (.sl _ rows) => (rows = [] → R true) ∧ R false
  | .own _ _ _ rows => (rows = [] → R true) ∧ R false
  | _ => False
def nlP (P : Program) (op : BinOp) (t : Nat) (x : AV) (R : Bool → Prop) : Prop := (isEqB op ∧ isSliceTy P t = true) ∧ nlC x fun b => R (nlR op b)
section
variable {P : Program}
theorem ei_5a (d t : Nat) {ms} (hu : P.underlying t = some (.slice ms)) (w' : World) : (Op.equalIn (d + 1) t (.slice none 0 0) (.slice none 0 0)).run P w' = .ok true w' := by simp [Op.equalIn, run_underlying hu]
theorem ei_5b (d t : Nat) (a : Addr) (n c : Nat) {ms} (hu : P.underlying t = some (.slice ms)) (w' : World) : (Op.equalIn (d + 1) t (.slice (some a) n c) (.slice none 0 0)).run P w' = .ok false w' := by simp [Op.equalIn, run_underlying hu]
theorem yv_nls {X : List Nat} {L : Lay} {w : World} {ρ : Operand → Value} {A : Operand → AV} {dst type pos after guard} (op : BinOp) (t t' : Nat) (x : Operand) (hx : ARep L w (A x) (ρ x)) (hy : ρ (.const (.slice none 0 0)) = .slice none 0 0) (hop : isEqB op) (ht : isSliceTy P t = true) {R : Bool → Prop} (h : nlC (A x) R) :
    ∃ b, R b ∧ Yv P X L w ρ ⟨dst, .binOp op t x (.const (.slice none 0 0)) t', type, pos, after, guard⟩ (.b (nlR op b)) := by
  have hu : ∃ ms, P.underlying t = some (.slice ms) := by
    unfold isSliceTy at ht
    cases hu : P.underlying t with
    | none => simp [hu] at ht
    | some d => cases d <;> first | exact ⟨_, rfl⟩ | simp [hu] at ht
  obtain ⟨ms, hu⟩ := hu
  have key : ∃ b, R b ∧ ∃ a n c, ρ x = .slice a n c ∧ (∀ w', (Op.equal t (ρ x) (.slice none 0 0)).run P w' = .ok b w') := by
    unfold nlC at h
    split at h
    · rename_i hA
      rw [hA] at hx
      have hx : ρ x = .slice none 0 0 := hx
      exact ⟨true, h, none, 0, 0, hx, fun w' => by rw [hx]; exact ei_5a 9999 t hu w'⟩
    · rename_i s rows hA
      rw [hA] at hx
      obtain ⟨a, n, c, e1, e2, e3, h4⟩ := hx
      rcases h4 with ⟨_, rfl, rfl⟩ | ⟨b, o, rfl, h4⟩
      · cases a with
        | none => exact ⟨true, h.1 (List.length_eq_zero_iff.1 e2.symm), none, 0, 0, e1, fun w' => by rw [e1]; exact ei_5a 9999 t hu w'⟩
        | some a => exact ⟨false, h.2, _, _, _, e1, fun w' => by rw [e1]; exact ei_5b 9999 t _ _ _ hu w'⟩
      · exact ⟨false, h.2, _, _, _, e1, fun w' => by rw [e1]; exact ei_5b 9999 t _ _ _ hu w'⟩
    · rename_i g e s rows hA
      rw [hA] at hx
      obtain ⟨_, xs, h1, _⟩ := hx
      rcases h1.2 with ⟨e1, e2⟩ | ⟨b, cap, cur, e1, _⟩
      · exact ⟨true, h.1 (List.length_eq_zero_iff.1 e2), none, 0, 0, e1, fun w' => by rw [e1]; exact ei_5a 9999 t hu w'⟩
      · exact ⟨false, h.2, _, _, _, e1, fun w' => by rw [e1]; exact ei_5b 9999 t _ _ _ hu w'⟩
    · exact h.elim
  obtain ⟨b, hR, a, n, c, e1, he⟩ := key
  refine ⟨b, hR, ?_⟩
  have hg : ∀ op w', (eqGuard op t x (.const (.slice none 0 0)) (ρ x) (.slice none 0 0)).run P w' = .ok () w' := fun op w' => by rw [e1]; unfold eqGuard; split <;> rfl
  rw [e1] at he
  cases op <;> simp only [isEqB] at hop
  · refine .of_all (v := .bool b) rfl fun w' => ?_
    simp only [execOp, hy, Sem.run_bind, hg, Result.andThen_ok]
    simp [binOp, e1, he]
  · refine .of_all (v := .bool (!b)) rfl fun w' => ?_
    simp only [execOp, hy, Sem.run_bind, hg, Result.andThen_ok]
    simp [binOp, e1, he]
end
def k0 (op : Op) : Bool := match op with | .call c => k0call c | .binOp _ _ _ y _ => !isNilSl y | .makeMap _ _ | .range _ _ | .next _ _ | .entry _ | .lookup _ _ _ _ | .mapUpdate _ _ _ _ | .insert _ _ _ _ | .alloc _ | .box _ _ | .buildSlice _ _ _ | .makeSlice _ _ _ | .store _ _ _ | .panic _ | .defer _ => false | _ => true

theorem opt_some {α : Type} {o : Option α} (h : o.isSome = true) : ∃ x, o = some x := Option.isSome_iff_exists.1 h

theorem pv_sound {P : Program} {X : List Nat} {L : Lay} {w : World} {ρ : Operand → Value} {A : Operand → AV} {S : Sto} (hA : ∀ x, ARep L w (A x) (ρ x)) (hS : ∀ g cells, S.get g = some cells → ObjRep L w g cells) (hlk : ∀ g r, L.lk g = some r → g < 2000000000) (o : Oper) (hs : ps P S X o.op A) :
    Yv P X L w ρ o (pv P S o.op A) := by
  obtain ⟨dst, op, type, pos, after, guard⟩ := o
  cases op <;> simp only [ps] at hs <;> simp only [pv]
  case move x => exact yv_move x (hA x)
  case assign x => exact yv_assign x (hA x)
  case pick c x y => exact yv_pick c x y (hA c) hs (hA x) (hA y)
  case binOp op t x y t' =>
    split at hs
    · rename_i h0; rw [if_pos h0]; exact yv_bin op t t' x y (hA x) (hA y) hs
    · rename_i h0; rw [if_neg h0]; exact yv_nil op t t' x y (hA x) (hA y) h0 hs
  case unOp op t x => exact yv_un op t x (hA x) hs
  case convert s d x => exact yv_cvI s d x (hA x) hs.2.2 hs.1 hs.2.1
  case fieldAddr s x f =>
    obtain ⟨o, ho⟩ := opt_some hs.1
    rw [ho]; exact yv_fieldAddr s f o x (hA x) hs.2 ho
  case nilCheck x => exact yv_nilCheck x (hA x) hs
  case field s x f =>
    split at hs
    · rename_i off ag n hf; (try simp only [hf]); exact yv_field s f off n ag x (hA x) hf hs
    · exact hs.elim
  case indexAddr t x i =>
    split at hs
    · rename_i s hf
      obtain ⟨h1, h2, h3, h4⟩ := hs
      (try simp only [hf]); exact yv_idxS t s x i (hA x) (hA i) h1 h2 hf h3 h4
    · rename_i hf
      split at hs
      · rename_i n z hz
        obtain ⟨h1, h2, h3, h4⟩ := hs
        (try simp only [hf, hz]); exact yv_idxA t n z x i (hA x) (hA i) h1 h2 hz h3 h4
      · exact hs.elim
  case load t x => exact yv_load t x (hA x) hS hlk hs
  case extract x i => exact yv_ext x i (hA x) hs
  case makeInterface t x => exact yv_iface t x (hA x) hs
  case makeFunc fn x y => exact yv_clo fn x y hA
  case build t parts =>
    obtain ⟨h1, h2⟩ := hs
    split at h2
    · rename_i zc hz; (try simp only [hz, Option.getD_some]); exact yv_build t parts hA hz h1 h2
    · exact h2.elim
  case slice t x lo hi mx =>
    obtain ⟨rfl, h1, h2, h3, h4⟩ := hs
    by_cases ht : isStringTy P t = true
    · rw [if_pos ht] at h4 ⊢; exact yv_slcStr t x lo hi hA h4.1 ht h1 h2 h3 h4.2.1 h4.2.2
    · rw [if_neg ht] at h4 ⊢
      obtain ⟨h4, h5, h6⟩ := h4
      split at h4
      · rename_i s hf; exact yv_slcS t s x lo hi hA h4 hf h1 h2 h3 h5 h6
      · exact h4.elim
  case index t x i =>
    split at hs
    · rename_i ht
      (try rw [if_pos ht]); exact yv_idxStr t x i (hA x) (hA i) hs.1 hs.2.1 ht hs.2.2.1 hs.2.2.2
    · rename_i ht
      (try rw [if_neg ht])
      split at hs
      · rename_i m ag n hz
        obtain ⟨h1, h2, h3, h4⟩ := hs
        (try simp only [hz]); exact yv_idxE t m n ag x i (hA x) (hA i) h1 hz h2 h3 h4
      · exact hs.elim
  case typeAssert x xt t ok => exact yv_asrt x xt t ok (hA x) hs
  case call c =>
    obtain ⟨callee, args, ts⟩ := c
    unfold callS at hs
    unfold callV
    split at hs
    · rename_i x t e1 e2 e3
      simp only at e1 e2 e3
      obtain rfl : args = #[x] := Array.toList_inj.1 e2
      obtain rfl : ts = #[t] := Array.toList_inj.1 e3
      subst e1
      by_cases ht : isStringTy P t = true
      · rw [if_pos ht] at hs; simp only [ht, if_true]; exact yv_lenStr t x (hA x) hs ht
      · rw [if_neg ht] at hs; simp only [ht, if_false]; exact yv_lenS t t x (hA x) hs.2 hs.1
    · rename_i x y e1 e2
      simp only at e1 e2
      obtain rfl : args = #[x, y] := Array.toList_inj.1 e2
      subst e1
      exact yv_max ts x y (hA x) (hA y) hs.1 hs.2
    · rename_i x y e1 e2
      simp only at e1 e2
      obtain rfl : args = #[x, y] := Array.toList_inj.1 e2
      subst e1
      exact yv_min ts x y (hA x) (hA y) hs.1 hs.2
    · exact hs.elim

end Go.E

namespace Go.E
open Go Go.Maps

mutual
def D.val? : D → Option Value
  | .v x => some x
  | .agg cs => (D.vals? cs).map fun l => .agg l.toArray
  | .iface t x => x.val?.map (.iface t)
  | _ => none
def D.vals? : List D → Option (List Value)
  | [] => some []
  | d :: ds => match d.val?, D.vals? ds with | some x, some l => some (x :: l) | _, _ => none
end
mutual
theorem D.val_rep {m : Mem} : ∀ {d : D} {z u : Value}, d.val? = some z → DRep m d u → u = z
  | .v x, z, u, h, k => by simp [D.val?] at h; subst h; exact k
  | .agg cs, z, u, h, ⟨us, e, k⟩ => by
    simp only [D.val?, Option.map_eq_some_iff] at h
    obtain ⟨l, h1, rfl⟩ := h
    rw [e, ← D.vals_rep h1 k]
  | .iface t x, z, u, h, ⟨y, e, k⟩ => by
    simp only [D.val?, Option.map_eq_some_iff] at h
    obtain ⟨l, h1, rfl⟩ := h
    rw [e, D.val_rep h1 k]
  | .sl _ _, _, _, h, _ => by simp [D.val?] at h
  | .ptr _ _, _, _, h, _ => by simp [D.val?] at h
  | .clo _ _ _, _, _, h, _ => by simp [D.val?] at h
  | .tup _, _, _, h, _ => by simp [D.val?] at h
theorem D.vals_rep {m : Mem} : ∀ {ds : List D} {l us : List Value}, D.vals? ds = some l → DReps m ds us → us = l
  | [], l, us, h, k => by simp [D.vals?] at h; subst h; exact k
  | d :: ds, l, us, h, ⟨u, ut, e, k1, k2⟩ => by
    simp only [D.vals?] at h
    split at h
    · rename_i x l' h1 h2
      simp at h; subst h
      rw [e, D.val_rep h1 k1, D.vals_rep h2 k2]
    · cases h
end

theorem areps_app' {L : Lay} {w : World} {xs ys : List AV} {us vs : List Value} : AReps L w xs us → AReps L w ys vs → AReps L w (xs ++ ys) (us ++ vs) := by
  induction xs generalizing us with
  | nil => intro h k; rw [show us = [] from h]; exact k
  | cons x xs ih => intro ⟨u, ut, e, h1, h2⟩ k; rw [e]; exact ⟨u, _, rfl, h1, ih h2 k⟩
def mapTy (P : Program) (t : Nat) : Option (Nat × Nat) := match P.underlying t with | some (.map k e) => some (k, e) | _ => none
theorem mapTy_spec {P : Program} {t k e : Nat} (h : mapTy P t = some (k, e)) : P.underlying t = some (.map k e) := by
  unfold mapTy at h
  split at h
  · rename_i k' e' hu; simp at h; obtain ⟨rfl, rfl⟩ := h; exact hu
  · cases h
def entOk (P : Program) (kt : Nat) (x : AV) : Prop := ∃ kd v kv, x = .d (.agg [kd, v]) ∧ kd.val? = some kv ∧ (keyOf P kt kv).isSome = true
def mapOk (P : Program) (kt : Nat) (c : List AV) : Prop := ∀ x ∈ c, entOk P kt x
def hasK (c : List AV) (kv : Value) (v : D) : Prop := ∃ kd, AV.d (.agg [kd, v]) ∈ c ∧ kd.val? = some kv
def lookS (c : List AV) (kv : Value) (R : Option D → Prop) : Prop := (∀ v, hasK c kv v → R (some v)) ∧ ((∀ v, ¬ hasK c kv v) → R none)
def lookV (z : AV) (ok : Bool) : Option D → AV
  | some v => if ok then AV.mkTup [.d v, .b true] else .d v
  | none => if ok then AV.mkTup [z, .b false] else z
def zeroA (P : Program) (t : Nat) : AV := match P.info? t with | some i => (match i.zero with | some z => cst z | none => .any) | none => .any
def updS (c : List AV) (kd : D) (kv : Value) (vd : D) (R : List AV → Prop) : Prop :=
  (∀ j kd' v, c[j]? = some (.d (.agg [kd', v])) → kd'.val? = some kv → R (c.set j (.d (.agg [kd, vd])))) ∧ ((∀ v, ¬ hasK c kv v) → R (c ++ [.d (.agg [kd, vd])]))

theorem born_push {es : Array MapEntry} {n : Nat} {k v : Value} (h : bornOk es n) : bornOk (es.push { key := k, val := v, born := n }) (n + 1) := by
  refine ⟨by rw [Array.size_push, h.1], fun i x hx => ?_⟩
  rw [Array.toList_push, List.getElem?_append] at hx
  split at hx
  · exact h.2 i x hx
  · rename_i hi
    have hi2 : ¬ i < es.size := by simpa using hi
    rw [List.getElem?_singleton] at hx
    split at hx
    · rename_i h0
      have h0 : i - es.size = 0 := by simpa using h0
      simp at hx; subst hx
      show n = i
      rw [h.1]; omega
    · cases hx
theorem born_modify {es : Array MapEntry} {n j : Nat} {f : MapEntry → MapEntry} (h : bornOk es n) (hf : ∀ e, (f e).born = e.born) : bornOk (es.modify j f) n := by
  refine ⟨by rw [Array.size_modify]; exact h.1, fun i x hx => ?_⟩
  rw [Array.toList_modify, List.getElem?_modify] at hx
  cases hc : es.toList[i]? with
  | none => rw [hc] at hx; simp at hx
  | some y =>
    rw [hc] at hx
    have := h.2 i y hc
    split at hx
    · simp at hx; rw [← hx, hf]; exact this
    · simp at hx; rw [← hx]; exact this
theorem ent_at {L : Lay} {w : World} {c : List AV} {es : Array MapEntry} {i : Nat} {kd v : D} {x : MapEntry} (h : AReps L w c (mapVs es)) (h1 : c[i]? = some (.d (.agg [kd, v]))) (h2 : es.toList[i]? = some x) : DRep (L.mem w) kd x.key ∧ DRep (L.mem w) v x.val := by
  obtain ⟨u, hu, k⟩ := h.get i _ h1
  simp only [mapVs, List.getElem?_map, h2, Option.map_some, Option.some.injEq] at hu
  subst hu
  obtain ⟨us, e, q⟩ := k
  cases e
  obtain ⟨u1, t1, e1, k1, u2, t2, e2, k2, e3⟩ := q
  simp only [List.cons.injEq] at e1
  obtain ⟨rfl, rfl⟩ := e1
  simp only [List.cons.injEq] at e2
  obtain ⟨rfl, rfl⟩ := e2
  exact ⟨k1, k2⟩

theorem ents_ok {P : Program} {kt : Nat} {L : Lay} {w : World} {c : List AV} {es : Array MapEntry} (h : AReps L w c (mapVs es)) (hok : mapOk P kt c) :
    (∀ x ∈ es.toList, ∃ l, keyOf P kt x.key = some l) ∧ ∀ (i : Nat) (x : MapEntry), es.toList[i]? = some x → ∃ kd v, c[i]? = some (.d (.agg [kd, v])) ∧ kd.val? = some x.key ∧ DRep (L.mem w) v x.val := by
  have hat : ∀ (i : Nat) (x : MapEntry), es.toList[i]? = some x → ∃ kd v, c[i]? = some (.d (.agg [kd, v])) ∧ kd.val? = some x.key ∧ DRep (L.mem w) v x.val ∧ ∃ l, keyOf P kt x.key = some l := fun i x hx => by
    have hl := h.length
    have hi : i < c.length := by rw [← hl]; simp only [mapVs, List.length_map]; exact (List.getElem?_eq_some_iff.1 hx).1
    obtain ⟨kd, v, kv, e1, e2, e3⟩ := hok c[i] (List.getElem_mem hi)
    have hci : c[i]? = some (.d (.agg [kd, v])) := by rw [List.getElem?_eq_getElem hi, e1]
    obtain ⟨k1, k2⟩ := ent_at h hci hx
    have := D.val_rep e2 k1
    subst this
    exact ⟨kd, v, hci, e2, k2, Option.isSome_iff_exists.1 e3⟩
  refine ⟨fun x hx => ?_, fun i x hx => ?_⟩
  · obtain ⟨i, hi, hx⟩ := List.getElem_of_mem hx
    obtain ⟨_, _, _, _, _, hl⟩ := hat i x (by rw [List.getElem?_eq_getElem hi, hx])
    exact hl
  · obtain ⟨kd, v, h1, h2, h3, _⟩ := hat i x hx
    exact ⟨kd, v, h1, h2, h3⟩

theorem find_at {P : Program} {kt : Nat} (K : Keyed P kt) {L : Lay} {w : World} {c : List AV} {es : Array MapEntry} (h : AReps L w c (mapVs es)) (hok : mapOk P kt c) {kv : Value} (hkey : (keyOf P kt kv).isSome = true) :
    ((Instr.findKey kt kv es.toList).run P w = .ok none w ∧ ∀ v, ¬ hasK c kv v) ∨ ∃ j x kd v, (Instr.findKey kt kv es.toList).run P w = .ok (some (j, x.val)) w ∧ es.toList[j]? = some x ∧ x.key = kv ∧ c[j]? = some (.d (.agg [kd, v])) ∧ kd.val? = some kv ∧ DRep (L.mem w) v x.val := by
  obtain ⟨l, hl⟩ := Option.isSome_iff_exists.1 hkey
  obtain ⟨h1, h2⟩ := ents_ok h hok
  rcases K.find w hl es.toList h1 with ⟨q1, q2⟩ | ⟨j, x, q1, q2, q3⟩
  · refine .inl ⟨q1, fun v ⟨kd, hm, hk⟩ => ?_⟩
    obtain ⟨i, hi, hx⟩ := List.getElem_of_mem hm
    have hl' := h.length
    have hi' : i < es.toList.length := by rw [← hl'] at hi; simpa [mapVs] using hi
    have hci : c[i]? = some (.d (.agg [kd, v])) := by rw [List.getElem?_eq_getElem hi, hx]
    obtain ⟨k1, _⟩ := ent_at h hci (List.getElem?_eq_getElem hi')
    exact q2 _ (List.getElem_mem hi') (D.val_rep hk k1)
  · obtain ⟨kd, v, h3, h4, h5⟩ := h2 j x q2
    rw [q3] at h4
    exact .inr ⟨j, x, kd, v, q1, q2, q3, h3, h4, h5⟩

theorem map_no {P : Program} {kt : Nat} {L : Lay} {w : World} : ∀ {c : List AV} {vs : List Value}, AReps L w c vs → mapOk P kt c → ∀ m r, vs ≠ .map m :: r
  | [], vs, h, _, m, r, e => by rw [show vs = [] from h] at e; cases e
  | x :: c, vs, ⟨u, ut, e1, h1, _⟩, hok, m, r, e => by
    obtain ⟨kd, v, kv, e2, _⟩ := hok x (by simp)
    subst e2
    obtain ⟨us, e3, _⟩ := h1
    rw [e1, e3] at e
    simp at e
section
variable {P : Program} {W0 : World} {L0 L : Lay} {env : List AV} {S : Sto} {w : World} {a : Act}

theorem mk_lookup {dst type pos after guard} (hr : Rel W0 L0 L env S w a) (m x : Operand) (t : Nat) (ok : Bool) {g kt et : Nat} {c : List AV} {kd : D} {kv : Value} (hm : aval env m = .mp g) (hc : S.get g = some c) (hx : aval env x = .d kd) (hkv : kd.val? = some kv)
    (hg3 : g < 3000000000) (ht : mapTy P t = some (kt, et)) (K : Keyed P kt) (hok : mapOk P kt c) (hkey : (keyOf P kt kv).isSome = true) (hz : zeroed P et = true) :
    ∃ r, ((∃ v, r = some v ∧ hasK c kv v) ∨ (r = none ∧ ∀ v, ¬ hasK c kv v)) ∧ Mk P W0 L0 a w ⟨dst, .lookup t m x ok, type, pos, after, guard⟩ env S (lookV (zeroA P et) ok r) := by
  have rm := aval_rep hr.slots m
  rw [hm] at rm
  obtain ⟨rm, rk, rg⟩ := rm
  have rx := aval_rep hr.slots x
  rw [hx] at rx
  have rx := D.val_rep hkv rx
  obtain ⟨vs, e0, e3⟩ := (hr.objs g c hc).2 (by omega)
  obtain ⟨es, n, h1, hbo, h2, rfl⟩ := e0.mapAt rk rg hg3 (map_no e3 hok)
  have hu := mapTy_spec ht
  obtain ⟨l, hl⟩ := Option.isSome_iff_exists.1 hkey
  have two : ∀ (p q : AV) (u v : Value), ARep L w p u → ARep L w q v → ARep L w (AV.mkTup [p, q]) (.tuple #[u, v]) := fun p q u v hp hq =>
    AV.mkTup_rep ⟨u, [v], rfl, hp, v, [], rfl, hq, rfl⟩
  rcases find_at K e3 hok hkey with ⟨q1, q2⟩ | ⟨j, y, kd', v, q1, q2, q3, q4, q5, q6⟩
  · unfold zeroed at hz
    cases hi : P.info? et with
    | none => simp [hi] at hz
    | some i =>
      cases hzz : i.zero with
      | none => simp [hi, hzz] at hz
      | some z =>
        have hzero : (zeroValue et).run P w = .ok z w := by simp [zeroValue, run_typeInfo' hi, hzz]
        have hzA : zeroA P et = cst z := by simp [zeroA, hi, hzz]
        refine ⟨none, .inr ⟨rfl, q2⟩, (if ok then .tuple #[z, .bool false] else z), w, L, ?_, hr, ?_⟩
        · simp only [execOp, Instr.lookup, Sem.run_bind, run_underlying' hu, Result.andThen_ok, show a.eval m = _ from rm, show a.eval x = kv from rx, MapKept.run_getObj_map h1, Sem.run_pure, K.check w _ hl, q1, hzero]
        · rw [hzA]
          cases ok
          · exact cst_rep z
          · exact two _ _ _ _ (cst_rep z) rfl
  · refine ⟨some v, .inl ⟨v, rfl, kd', List.mem_of_getElem? q4, q5⟩, (if ok then .tuple #[y.val, .bool true] else y.val), w, L, ?_, hr, ?_⟩
    · simp only [execOp, Instr.lookup, Sem.run_bind, run_underlying' hu, Result.andThen_ok, show a.eval m = _ from rm, show a.eval x = kv from rx, MapKept.run_getObj_map h1, Sem.run_pure, K.check w _ hl, q1]
    · cases ok
      · exact q6
      · exact two (.d v) (.b true) _ (.bool true) q6 rfl

theorem mks_mapUpdate {dst type pos after guard} (hr : Rel W0 L0 L env S w a) (m x y : Operand) (t : Nat) {g kt et : Nat} {c : List AV} {kd vd : D} {kv : Value} (hm : aval env m = .mp g) (hc : S.get g = some c) (hx : aval env x = .d kd) (hy : aval env y = .d vd) (hkv : kd.val? = some kv)
    (hg3 : g < 3000000000) (ht : mapTy P t = some (kt, et)) (K : Keyed P kt) (hok : mapOk P kt c) (hkey : (keyOf P kt kv).isSome = true) (hme : AV.mencs g env = false) (hms : S.mencs g = false) :
    ∃ c', ((∃ j kd' v', c[j]? = some (.d (.agg [kd', v'])) ∧ kd'.val? = some kv ∧ c' = c.set j (.d (.agg [kd, vd]))) ∨ ((∀ v, ¬ hasK c kv v) ∧ c' = c ++ [.d (.agg [kd, vd])])) ∧
      Mks P W0 L0 a w ⟨dst, .mapUpdate t m x y, type, pos, after, guard⟩ env (S.upd g c') := by
  have rm := aval_rep hr.slots m
  rw [hm] at rm
  obtain ⟨rm, rk, rg⟩ := rm
  have rx0 := aval_rep hr.slots x
  rw [hx] at rx0
  have rx := D.val_rep hkv rx0
  have ry := aval_rep hr.slots y
  rw [hy] at ry
  have hg : g ≠ 0 := by omega
  obtain ⟨vs, e0, e3⟩ := (hr.objs g c hc).2 hg
  obtain ⟨es, n, h1, hbo, h2, rfl⟩ := e0.mapAt rk rg hg3 (map_no e3 hok)
  have hu := mapTy_spec ht
  obtain ⟨l, hl⟩ := Option.isSome_iff_exists.1 hkey
  have fin : ∀ (es' : Array MapEntry) (n' : Nat) (c' : List AV), bornOk es' n' → (execOp a.eval ⟨dst, .mapUpdate t m x y, type, pos, after, guard⟩).run P w = .ok .skip (ChangeMaps.setBlock w (L.blk g) (.map es' n')) →
      (∀ w', Same g L w L w' → AReps L w' c (mapVs es) → DRep (L.mem w') kd (a.eval x) → DRep (L.mem w') vd (a.eval y) → AReps L w' c' (mapVs es')) →
      Mks P W0 L0 a w ⟨dst, .mapUpdate t m x y, type, pos, after, guard⟩ env (S.upd g c') := fun es' n' c' hbn hrun hrep => by
    have hoth : ∀ b, b ≠ L.blk g → (ChangeMaps.setBlock w (L.blk g) (.map es' n')).heap[b]? = w.heap[b]? := fun b hb => ChangeMaps.heap_setBlock_other h1 _ hb
    have hthis : (ChangeMaps.setBlock w (L.blk g) (.map es' n')).heap[L.blk g]? = some (.map es' n') := ChangeMaps.heap_setBlock_same h1 _
    have hsz : (ChangeMaps.setBlock w (L.blk g) (.map es' n')).heap.size = w.heap.size := by simp [ChangeMaps.setBlock]
    have hsame : Same g L w L (ChangeMaps.setBlock w (L.blk g) (.map es' n')) := ⟨fun b hb hne => ⟨hoth b (fun e => hne (by rw [e]; exact h2)), rfl⟩, fun _ _ => rfl, fun _ _ => rfl, rfl, fun _ _ => rfl⟩
    have hos : (ChangeMaps.setBlock w (L.blk g) (.map es' n')).os = w.os := rfl
    have hta : (ChangeMaps.setBlock w (L.blk g) (.map es' n')).tape = w.tape := rfl
    have hou : (ChangeMaps.setBlock w (L.blk g) (.map es' n')).output = w.output := rfl
    generalize ChangeMaps.setBlock w (L.blk g) (.map es' n') = w' at *
    have hst := AReps.st hsame _ _ hme hr.slots
    refine ⟨w', L, hrun, { hr with lkb := by rw [hsz]; exact hr.lkb, kept := hr.kept_same hg hsame, mks := hr.mks_same hg hsame, slots := hst, objs := ?_, old := ?_, size := by rw [hsz]; exact hr.size, own_lt := fun b g' hb => by rw [hsz]; exact hr.own_lt b g' hb, os := hos.trans hr.os, tape := hta.trans hr.tape, output := hou.trans hr.output }⟩
    · intro h cs' hcs'
      rw [Sto.get_upd] at hcs'
      by_cases hgh : g = h
      · subst hgh
        rw [if_pos rfl, hc] at hcs'
        simp at hcs'; subst hcs'
        refine ⟨fun h0 => absurd h0 hg, fun _ => ⟨_, by unfold Held; rw [rk]; exact .inl ⟨h2, .inr (.inl ⟨⟨rg, hg3⟩, .inl ⟨_, _, hthis, hbn, rfl⟩⟩)⟩, ?_⟩⟩
        have kx := aval_rep hst x
        rw [hx] at kx
        have ky := aval_rep hst y
        rw [hy] at ky
        exact hrep w' hsame (AReps.st hsame _ _ (Sto.mencs_get hms hc) e3) kx ky
      · rw [if_neg hgh] at hcs'
        refine ⟨fun h0 => AReps.st hsame _ _ (Sto.mencs_get hms hcs') ((hr.objs h cs' hcs').1 h0), fun h0 => ?_⟩
        obtain ⟨vs', f1, f3⟩ := (hr.objs h cs' hcs').2 h0
        exact ⟨vs', f1.congr rfl (fun _ => rfl) (fun b hb ho => hsame.heap b hb (by rcases ho with ho | ho <;> rw [ho] <;> simp <;> first | exact fun e => hgh e.symm | exact fun e => hg e.symm)), AReps.st hsame _ _ (Sto.mencs_get hms hcs') f3⟩
    · intro b hb hb0
      have q1 := hr.old b hb hb0
      have q2 := hsame.heap b (Nat.lt_of_lt_of_le hb hr.size) (fun e => hr.not_old hg b hb e hb0)
      exact ⟨q1.1, q2.1.trans q1.2⟩
  have pair : ∀ w', DRep (L.mem w') kd (a.eval x) → DRep (L.mem w') vd (a.eval y) → ARep L w' (.d (.agg [kd, vd])) (.agg #[a.eval x, a.eval y]) := fun w' k1 k2 => ⟨_, rfl, _, _, rfl, k1, _, _, rfl, k2, rfl⟩
  rcases find_at K e3 hok hkey with ⟨q1, q2⟩ | ⟨j, z, kd', v, q1, q2, q3, q4, q5, q6⟩
  · refine ⟨_, .inr ⟨q2, rfl⟩, fin (es.push { key := a.eval x, val := a.eval y, born := n }) (n + 1) _ (born_push hbo) ?_ fun w' _ k0 k1 k2 => ?_⟩
    · simp only [execOp, Instr.mapUpdate, Sem.run_bind, run_underlying' hu, Result.andThen_ok, show a.eval m = _ from rm, show a.eval x = kv from rx, MapKept.run_getObj_map h1, K.check w _ hl, q1, MapKept.run_setObj_map _ h1]
      rfl
    · simp only [mapVs, Array.toList_push, List.map_append, List.map_cons, List.map_nil]
      exact areps_app' k0 ⟨_, [], rfl, pair w' k1 k2, rfl⟩
  · refine ⟨_, .inl ⟨j, kd', v, q4, q5, rfl⟩, fin (es.modify j fun e => { e with key := a.eval x, val := a.eval y }) n _ (born_modify hbo (fun _ => rfl)) ?_ fun w' _ k0 k1 k2 => ?_⟩
    · have hjk : ((es[j]?).map (·.key)).getD kv = kv := by rw [show es[j]? = some z by simpa using q2]; simpa using q3
      simp only [execOp, Instr.mapUpdate, Sem.run_bind, run_underlying' hu, Result.andThen_ok, show a.eval m = _ from rm, show a.eval x = kv from rx, MapKept.run_getObj_map h1, K.check w _ hl, q1, hjk, K.stays w hl, MapKept.run_setObj_map _ h1]
      rfl
    · have hm : mapVs (es.modify j fun e => { e with key := a.eval x, val := a.eval y }) = (mapVs es).set j (.agg #[a.eval x, a.eval y]) := by
        simp only [mapVs, Array.toList_modify]
        apply List.ext_getElem?
        intro i
        rw [List.getElem?_map, List.getElem?_modify, List.getElem?_set, List.getElem?_map, List.length_map]
        by_cases hij : j = i
        · subst hij
          rw [q2]; simp
          simpa using (List.getElem?_eq_some_iff.1 q2).1
        · simp [hij]
      rw [hm]
      exact AReps.set k0 j (pair w' k1 k2)

theorem mk_makeMap {dst type pos after guard} (hr : Rel W0 L0 L env S w a) {k : Nat} (hk : 2000000000 ≤ k) (t : Nat) :
    Mk P W0 L0 a w ⟨dst, .makeMap t none, type, pos, after, guard⟩ (env.map (AV.kill k)) ((S.kill k).ins k []) (.mp k) := by
  have hr := hr.kill k
  have hk0 : k ≠ 0 := by omega
  have hm := mens_kill k env
  have hs := Sto.mens_killed k S
  have hg := Sto.kill_none k S
  generalize env.map (AV.kill k) = env at *
  generalize S.kill k = S at *
  let L' : Lay := { L with own := fun b => if b = w.heap.size then some k else L.own b, blk := fun g => if g = k then w.heap.size else L.blk g }
  have hsame : Same k L w L' (w.alloc (.map #[] 0)) := ⟨fun b hb _ => ⟨RowKit.Below.heap_alloc w _ b hb, by simp [L', Nat.ne_of_lt hb]⟩, fun g hg => by simp [L', hg], fun _ _ => rfl, rfl, fun _ _ => rfl⟩
  have h1 := hr.step hk0 hsame hm hs hg (hr.not_old hk0) (by simp) (fun b g hb => by
    simp only [L'] at hb
    split at hb
    · rename_i e; subst e; simp
    · have := hr.own_lt b g hb; simp; omega) rfl rfl rfl
  have hlk : L.lk k = none := by
    cases h : L.lk k with
    | none => rfl
    | some r => have := (hr.lkb k r (by rw [← hr.lke, h])).1; omega
  refine ⟨.map (some w.heap.size), w.alloc (.map #[] 0), L', by simp [execOp, Instr.makeMap, newObj]; rfl, { h1 with objs := fun g c hgc => ?_ }, by simp [L'], hlk, hk⟩
  rw [Sto.get_ins hg] at hgc
  split at hgc
  · rename_i e; subst e; simp at hgc; subst hgc
    exact ⟨fun h0 => absurd h0 hk0, fun _ => ⟨[], by unfold Held; rw [show L'.lk k = none from hlk]; exact .inl ⟨by simp [L'], by
      have hnew : (w.alloc (.map #[] 0)).heap[L'.blk k]? = some (.map #[] 0) := by simp only [L', if_true]; exact heap_alloc_new w _
      rcases Nat.lt_or_ge k 3000000000 with h3 | h3
      · exact .inr (.inl ⟨⟨hk, h3⟩, .inl ⟨#[], 0, hnew, ⟨rfl, fun i x h => by simp at h⟩, rfl⟩⟩)
      · exact .inr (.inr ⟨h3, #[], 0, hnew, ⟨rfl, fun i x h => by simp at h⟩, ⟨fun x hx => by simp at hx, by simp⟩, rfl⟩)⟩, rfl⟩⟩
  · exact h1.objs g c hgc
end
end Go.E

namespace Go.E
open Go Go.Maps

def pairsOk (c : List AV) : Prop := ∀ x ∈ c, ∃ a b, x = AV.d (.agg [a, b])
theorem pairs_no {L : Lay} {w : World} : ∀ {c : List AV} {vs : List Value}, AReps L w c vs → pairsOk c → ∀ m r, vs ≠ .map m :: r
  | [], vs, h, _, m, r, e => by rw [show vs = [] from h] at e; cases e
  | x :: c, vs, ⟨u, ut, e1, h1, _⟩, hok, m, r, e => by
    obtain ⟨a, b, e2⟩ := hok x (by simp)
    subst e2
    obtain ⟨us, e3, _⟩ := h1
    rw [e1, e3] at e
    simp at e
def itc (g n : Nat) (seen : List Nat) : List AV := [.mp g, .d (.v (.int .i64 n)), .d (.agg (seen.map fun (i : Nat) => .v (.int .i64 (i : Int))))]
theorem ints_reps {m : Mem} : ∀ {seen : List Nat} {us : List Value}, DReps m (seen.map fun (i : Nat) => D.v (.int .i64 (i : Int))) us → us = seen.map fun (i : Nat) => Value.int .i64 (i : Int)
  | [], us, h => h
  | i :: l, us, ⟨u, ut, e, h1, h2⟩ => by rw [e, show u = _ from h1, ints_reps h2]; rfl
theorem reps_ints {m : Mem} : ∀ (seen : List Nat), DReps m (seen.map fun (i : Nat) => D.v (.int .i64 (i : Int))) (seen.map fun (i : Nat) => Value.int .i64 (i : Int))
  | [] => rfl
  | i :: l => ⟨_, _, rfl, rfl, reps_ints l⟩
theorem int_list_inj : ∀ {a b : List Nat}, (a.map fun (i : Nat) => Value.int .i64 (i : Int)) = (b.map fun (i : Nat) => Value.int .i64 (i : Int)) → a = b
  | [], [], _ => rfl
  | [], _ :: _, h => by simp at h
  | _ :: _, [], h => by simp at h
  | x :: a, y :: b, h => by
    simp only [List.map_cons, List.cons.injEq, Value.int.injEq, true_and] at h
    rw [int_list_inj h.2, show x = y by omega]
section
variable {P : Program} {W0 : World} {L0 L : Lay} {env : List AV} {S : Sto} {w : World} {a : Act}
theorem iter_at (hr : Rel W0 L0 L env S w a) {h g n : Nat} {seen : List Nat} {c : List AV} (hh : S.get h = some (itc g n seen)) (hk : L.lk h = none) (h2 : 2000000000 ≤ h) (hc : S.get g = some c) (hg3 : g < 3000000000) (hp : pairsOk c) (hn : c.length = n) :
    ∃ es : Array MapEntry, w.heap[L.blk h]? = some (.mapIter (some (L.blk g)) n seen.toArray n) ∧ L.own (L.blk h) = some h ∧ w.heap[L.blk g]? = some (.map es n) ∧ bornOk es n ∧ L.own (L.blk g) = some g ∧ AReps L w c (mapVs es) ∧ (L.lk g = none ∧ 2000000000 ≤ g) := by
  obtain ⟨vs, e1, u0, t0, rfl, k1, u1, t1, rfl, k2, u2, t2, rfl, k3, e4⟩ := (hr.objs h _ hh).2 (by omega)
  obtain rfl : t2 = [] := e4
  obtain ⟨rfl, q1, q2⟩ := k1
  have k2 : u1 = .int .i64 n := k2
  subst k2
  obtain ⟨us, rfl, k3⟩ := k3
  have k3 := ints_reps k3
  obtain ⟨b, since, sa, c0, f1, rfl, f3, f4⟩ := e1.iterAt hk h2
  unfold itVs at f4
  simp only [List.cons.injEq, Value.map.injEq, Option.some.injEq, Value.int.injEq, true_and, Value.agg.injEq, and_true] at f4
  obtain ⟨rfl, f5, f6⟩ := f4
  have f5 : n = c0 := by omega
  subst f5
  have f7 : seen = sa.toList := by
    apply int_list_inj
    rw [← k3, f6, Array.toList_map]
  obtain ⟨vs2, g1, g2⟩ := (hr.objs g c hc).2 (by omega)
  obtain ⟨es, n', j1, j2, j3, rfl⟩ := g1.mapAt q1 q2 hg3 (pairs_no g2 hp)
  have hlen := g2.length
  have hn' : n' = n := by
    rw [j2.1]
    have : (mapVs es).length = es.size := by simp [mapVs]
    omega
  subst hn'
  refine ⟨es, by rw [f1, f7], f3, j1, j2, j3, g2, q1, q2⟩
theorem mk_range {dst type pos after guard} (hr : Rel W0 L0 L env S w a) {k : Nat} (hk : 2000000000 ≤ k) (hk3 : k < 3000000000) (t : Nat) (m : Operand) {g kt et : Nat} {c : List AV} (hg3 : g < 3000000000) (hm : aval (env.map (AV.kill k)) m = .mp g) (hc : (S.kill k).get g = some c) (ht : mapTy P t = some (kt, et)) (hp : pairsOk c) :
    Mk P W0 L0 a w ⟨dst, .range t m, type, pos, after, guard⟩ (env.map (AV.kill k)) ((S.kill k).ins k (itc g c.length [])) (.it k) := by
  have hr := hr.kill k
  have hk0 : k ≠ 0 := by omega
  have hme := mens_kill k env
  have hs := Sto.mens_killed k S
  have hg := Sto.kill_none k S
  generalize env.map (AV.kill k) = env at *
  generalize S.kill k = S at *
  have rm := aval_rep hr.slots m
  rw [hm] at rm
  obtain ⟨rm, rk, rg⟩ := rm
  have hgk : g ≠ k := fun e => by rw [e, hg] at hc; cases hc
  obtain ⟨vs2, g1, g2⟩ := (hr.objs g c hc).2 (by omega)
  obtain ⟨es, n', j1, j2, j3, rfl⟩ := g1.mapAt rk rg hg3 (pairs_no g2 hp)
  have hlen := g2.length
  have hn' : n' = c.length := by
    rw [j2.1]
    have : (mapVs es).length = es.size := by simp [mapVs]
    omega
  subst hn'
  let L' : Lay := { L with own := fun b => if b = w.heap.size then some k else L.own b, blk := fun g => if g = k then w.heap.size else L.blk g }
  have hsame : Same k L w L' (w.alloc (.mapIter (some (L.blk g)) c.length #[] c.length)) := ⟨fun b hb _ => ⟨RowKit.Below.heap_alloc w _ b hb, by simp [L', Nat.ne_of_lt hb]⟩, fun g hg => by simp [L', hg], fun _ _ => rfl, rfl, fun _ _ => rfl⟩
  have h1 := hr.step hk0 hsame hme hs hg (hr.not_old hk0) (by simp) (fun b g hb => by
    simp only [L'] at hb
    split at hb
    · rename_i e; subst e; simp
    · have := hr.own_lt b g hb; simp; omega) rfl rfl rfl
  have hlk : L.lk k = none := by
    cases h : L.lk k with
    | none => rfl
    | some r => have := (hr.lkb k r (by rw [← hr.lke, h])).1; omega
  have hu := mapTy_spec ht
  refine ⟨.pointer (some ⟨w.heap.size, 0, none⟩), w.alloc (.mapIter (some (L.blk g)) c.length #[] c.length), L', ?_, { h1 with objs := fun g' c' hgc => ?_ }, by simp [L'], hlk, hk⟩
  · simp only [execOp, Instr.range, Sem.run_bind, run_underlying' hu, Result.andThen_ok, show a.eval m = _ from rm, MapKept.run_getObj_map j1, Sem.run_pure, newObj]
    rfl
  · rw [Sto.get_ins hg] at hgc
    split at hgc
    · rename_i e; subst e; simp at hgc; subst hgc
      refine ⟨fun h0 => absurd h0 hk0, fun _ => ⟨itVs (L.blk g) c.length #[], by unfold Held; rw [show L'.lk k = none from hlk]; exact .inl ⟨by simp [L'], .inr (.inl ⟨⟨hk, hk3⟩, .inr ⟨_, _, _, _, by simp only [L', if_true]; exact heap_alloc_new w _, rfl, rfl⟩⟩)⟩, ?_⟩⟩
      exact ⟨_, _, rfl, ⟨by simp [L', hgk], rk, rg⟩, _, _, rfl, rfl, _, _, rfl, ⟨#[], by simp, rfl⟩, rfl⟩
    · exact h1.objs g' c' hgc
theorem mk_next {dst type pos after guard} (hr : Rel W0 L0 L env S w a) (it : Operand) {h g n : Nat} {seen : List Nat} {c : List AV} (hi : aval env it = .it h) (hh : S.get h = some (itc g n seen)) (hc : S.get g = some c) (hh3 : h < 3000000000) (hg3 : g < 3000000000) (hp : pairsOk c) (hn : c.length = n) (hme : AV.mencs h env = false) (hms : S.mencs h = false) :
    ((∀ i, i < n → i ∈ seen) ∧ Mk P W0 L0 a w ⟨dst, .next it false, type, pos, after, guard⟩ env S (.tup [.b false])) ∨
    ∃ i kd v, (i < n ∧ i ∉ seen ∧ c[i]? = some (.d (.agg [kd, v]))) ∧ Mk P W0 L0 a w ⟨dst, .next it false, type, pos, after, guard⟩ env (S.upd h (itc g n (seen ++ [i]))) (.tup [.b true, .d kd, .d v]) := by
  have rm := aval_rep hr.slots it
  rw [hi] at rm
  obtain ⟨rm, rk, rg⟩ := rm
  obtain ⟨es, w1, w2, w3, w4, w5, w6, w7⟩ := iter_at hr hh rk rg hc hg3 hp hn
  have hlen : es.size = n := w4.1.symm
  have hseen : ∀ i, seen.toArray.contains i = seen.contains i := fun i => by simp
  rcases run_next_at (P := P) w type (L.blk h) (L.blk g) n n seen.toArray es n w1 w3 (fun x hx => by
    obtain ⟨i, hi, rfl⟩ := List.getElem_of_mem hx
    have hi' : i < es.size := by simpa using hi
    rw [w4.2 i _ (List.getElem?_eq_getElem hi)]; omega) (Nat.le_refl _) with ⟨r1, r2⟩ | ⟨e, r1, wd, r2, r3⟩
  · refine .inl ⟨fun i hi => ?_, .tuple #[.bool false], w, L, by simp only [execOp, show a.eval it = _ from rm, r2, Sem.run_bind, Result.andThen_ok, Sem.run_pure], hr, ⟨_, rfl, _, _, rfl, rfl, rfl⟩⟩
    have hi' : i < es.toList.length := by simpa [hlen] using hi
    have hb := w4.2 i _ (List.getElem?_eq_getElem hi')
    have hz : leftOf es seen.toArray = #[] := Array.eq_empty_of_size_eq_zero r1
    unfold leftOf at hz
    rw [Array.filter_eq_empty_iff] at hz
    have := hz es.toList[i] (by simp)
    rw [hb] at this
    simpa using this
  · unfold leftOf at r1
    simp only [Array.toList_filter, List.mem_filter] at r1
    obtain ⟨r4, r5⟩ := r1
    obtain ⟨i, hi, rfl⟩ := List.getElem_of_mem r4
    have hi' : i < n := by rw [← hlen]; simpa using hi
    have hb := w4.2 i _ (List.getElem?_eq_getElem hi)
    have hci : i < c.length := by omega
    obtain ⟨kd, v, hkv⟩ := hp c[i] (List.getElem_mem hci)
    have hcg : c[i]? = some (.d (.agg [kd, v])) := by rw [List.getElem?_eq_getElem hci, hkv]
    obtain ⟨k1, k2⟩ := ent_at w6 hcg (List.getElem?_eq_getElem hi)
    rw [hb] at r5 r3
    generalize es.toList[i] = e at *
    refine .inr ⟨i, kd, v, ⟨hi', by simpa using r5, hcg⟩, ?_⟩
    have hh0 : h ≠ 0 := by omega
    have hgh : g ≠ h := fun e => by rw [e, w1] at w3; cases w3
    have hwd : wd.heap = w.heap ∧ wd.os = w.os ∧ wd.tape = w.tape ∧ wd.output = w.output := r2.elim (fun q => by rw [q]; exact ⟨rfl, rfl, rfl, rfl⟩) (fun q => by rw [q]; exact ⟨rfl, rfl, rfl, rfl⟩)
    obtain ⟨hdh, hos, hta, hou⟩ := hwd
    have hw1 : wd.heap[L.blk h]? = some (.mapIter (some (L.blk g)) n seen.toArray n) := by rw [hdh]; exact w1
    obtain ⟨o', ho'⟩ : ∃ o', o' = Obj.mapIter (some (L.blk g)) n (seen.toArray.push i) n := ⟨_, rfl⟩
    rw [← ho'] at r3
    have hlt : L.blk h < wd.heap.size := lt_of_heap hw1
    have hoth : ∀ b, b ≠ L.blk h → (ChangeMaps.setBlock wd (L.blk h) o').heap[b]? = w.heap[b]? := fun b hb => by
      rw [← hdh]
      simp only [ChangeMaps.setBlock, Array.getElem?_setIfInBounds]
      rw [if_neg (fun e => hb e.symm)]
    have hthis : (ChangeMaps.setBlock wd (L.blk h) o').heap[L.blk h]? = some o' := by
      simp only [ChangeMaps.setBlock, Array.getElem?_setIfInBounds, if_true, hlt]
    have hsz : (ChangeMaps.setBlock wd (L.blk h) o').heap.size = w.heap.size := by rw [← hdh]; simp [ChangeMaps.setBlock]
    have hos' : (ChangeMaps.setBlock wd (L.blk h) o').os = w.os := hos
    have hta' : (ChangeMaps.setBlock wd (L.blk h) o').tape = w.tape := hta
    have hou' : (ChangeMaps.setBlock wd (L.blk h) o').output = w.output := hou
    have hsame : Same h L w L (ChangeMaps.setBlock wd (L.blk h) o') := ⟨fun b hb hne => ⟨hoth b (fun e => hne (by rw [e]; exact w2)), rfl⟩, fun _ _ => rfl, fun _ _ => rfl, rfl, fun _ _ => rfl⟩
    generalize ChangeMaps.setBlock wd (L.blk h) o' = w' at *
    have hst := AReps.st hsame _ _ hme hr.slots
    have hcg' : L.mem w = L.mem w' ∨ True := .inr trivial
    refine ⟨.tuple #[.bool true, e.key, e.val], w', L, by simp only [execOp, show a.eval it = _ from rm, r3, Sem.run_bind, Result.andThen_ok, Sem.run_pure], { hr with lkb := by rw [hsz]; exact hr.lkb, kept := hr.kept_same hh0 hsame, mks := hr.mks_same hh0 hsame, slots := hst, objs := ?_, old := ?_, size := by rw [hsz]; exact hr.size, own_lt := fun b g' hb => by rw [hsz]; exact hr.own_lt b g' hb, os := hos'.trans hr.os, tape := hta'.trans hr.tape, output := hou'.trans hr.output }, ?_⟩
    · intro h' cs' hcs'
      rw [Sto.get_upd] at hcs'
      by_cases hgh' : h = h'
      · subst hgh'
        rw [if_pos rfl, hh] at hcs'
        simp at hcs'; subst hcs'
        refine ⟨fun h0 => absurd h0 hh0, fun _ => ⟨itVs (L.blk g) n (seen.toArray.push i), by unfold Held; rw [rk]; exact .inl ⟨w2, .inr (.inl ⟨⟨rg, hh3⟩, .inr ⟨_, _, _, _, by rw [hthis, ho'], rfl, rfl⟩⟩)⟩, ?_⟩⟩
        refine ⟨_, _, rfl, ⟨rfl, w7⟩, _, _, rfl, rfl, _, _, rfl, ⟨(seen.toArray.push i).map fun (i : Nat) => Value.int .i64 (i : Int), rfl, ?_⟩, rfl⟩
        rw [Array.toList_map, Array.toList_push]
        exact reps_ints _
      · rw [if_neg hgh'] at hcs'
        refine ⟨fun h0 => AReps.st hsame _ _ (Sto.mencs_get hms hcs') ((hr.objs h' cs' hcs').1 h0), fun h0 => ?_⟩
        obtain ⟨vs', f1, f3⟩ := (hr.objs h' cs' hcs').2 h0
        exact ⟨vs', f1.congr rfl (fun _ => rfl) (fun b hb ho => hsame.heap b hb (by rcases ho with ho | ho <;> rw [ho] <;> simp <;> first | exact fun e => hgh' e.symm | exact fun e => hh0 e.symm)), AReps.st hsame _ _ (Sto.mencs_get hms hcs') f3⟩
    · intro b hb hb0
      have q1 := hr.old b hb hb0
      have q2 := hsame.heap b (Nat.lt_of_lt_of_le hb hr.size) (fun e => hr.not_old hh0 b hb e hb0)
      exact ⟨q1.1, q2.1.trans q1.2⟩
    · exact ⟨_, rfl, _, _, rfl, rfl, _, _, rfl, DRep.mono hsame.mem _ _ k1, _, _, rfl, DRep.mono hsame.mem _ _ k2, rfl⟩
theorem mk_entry {dst type pos after guard} (hr : Rel W0 L0 L env S w a) (it : Operand) {h g n i : Nat} {seen : List Nat} {c : List AV} {kd v : D} (hi : aval env it = .it h) (hh : S.get h = some (itc g n (seen ++ [i]))) (hc : S.get g = some c) (hg3 : g < 3000000000) (hp : pairsOk c) (hn : c.length = n) (hci : c[i]? = some (.d (.agg [kd, v]))) :
    Mk P W0 L0 a w ⟨dst, .entry it, type, pos, after, guard⟩ env S (.tup [.d kd, .d v]) := by
  have rm := aval_rep hr.slots it
  rw [hi] at rm
  obtain ⟨rm, rk, rg⟩ := rm
  obtain ⟨es, w1, w2, w3, w4, w5, w6, w7⟩ := iter_at hr hh rk rg hc hg3 hp hn
  have hil : i < c.length := (List.getElem?_eq_some_iff.1 hci).1
  have hlen : es.size = n := w4.1.symm
  have hie : i < es.toList.length := by simp [hlen]; omega
  have hb := w4.2 i _ (List.getElem?_eq_getElem hie)
  obtain ⟨k1, k2⟩ := ent_at w6 hci (List.getElem?_eq_getElem hie)
  have hnd : (es.toList.map (·.born)).Nodup := by
    have : es.toList.map (·.born) = List.range es.toList.length := by
      apply List.ext_getElem (by simp)
      intro j h1 h2
      have hj : j < es.toList.length := by simpa using h1
      simp [w4.2 j _ (List.getElem?_eq_getElem hj)]
      exact w4.2 j _ (by simp at hj; simp [hj])
    rw [this]; exact List.nodup_range
  have hrun := run_entry_at (P := P) w (L.blk h) (L.blk g) n seen.toArray es n es.toList[i] (by rw [w1, hb]; simp) w3 (List.getElem_mem hie) hnd
  exact ⟨_, w, L, by simp only [execOp, show a.eval it = _ from rm, hrun, Sem.run_bind, Result.andThen_ok, Sem.run_pure], hr, ⟨_, rfl, _, _, rfl, k1, _, _, rfl, k2, rfl⟩⟩
end
end Go.E
