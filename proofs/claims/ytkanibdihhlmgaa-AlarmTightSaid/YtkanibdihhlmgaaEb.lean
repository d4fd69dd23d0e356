/- A part of the proof that the last text ends: what functions of the program do, told by plain data. -/
import Derived.Test.YtkanibdihhlmgaaEa
import Derived.RangeFuncLeaves
import Derived.RangeFuncRecord
import Derived.RangeFuncNested
import Derived.Recover
import Derived.ProofKit
import Derived.Deep.Slices
import Derived.ChangeArms
import Derived.Carry
/- The walk on data: a calculus over the weakest preconditions of the kit: what a call does is told by lists of plain data. Part 2 of 3. -/
set_option linter.unusedVariables false
set_option linter.unusedSimpArgs false
namespace Go.E
open Go Go.RowKit

/-! ### The blocks of ranges over functions, shut as the function ends -/
/-- All but marks' blocks stays. -/
structure Shut (ms : List Nat) (w w' : World) : Prop where
  heap : ∀ b, b ∉ ms → w'.heap[b]? = w.heap[b]?
  size : w'.heap.size = w.heap.size
  os : w'.os = w.os
  tape : w'.tape = w.tape
  output : w'.output = w.output
theorem Shut.refl (w : World) : Shut [] w w := ⟨fun _ _ => rfl, rfl, rfl, rfl, rfl⟩

theorem isMark_col {t : Target} {args : Array Value} (h : isMark { target := t, args := args } = true) : ∃ r, t = .collected r := by
  cases t <;> simp [isMark] at h
  exact ⟨_, rfl⟩
theorem strip_cons {d : Deferred} {ds : List Deferred} (hs : strip (d :: ds) = []) : isMark d = true ∧ strip ds = [] := by
  cases hd : isMark d with
  | true => exact ⟨rfl, by simpa [strip, hd] using hs⟩
  | false => simp [strip, hd] at hs
theorem marks_app (a b : List Deferred) : marks (a ++ b) = marks a ++ marks b := by simp [marks]
theorem Shut.cons {r : Nat} {ms : List Nat} {w w' : World} (h : Shut ms (w.putObj r (.deferred none)) w') : Shut (r :: ms) w w' :=
  ⟨fun b hb => by
    rw [h.heap b (fun hb' => hb (List.mem_cons_of_mem _ hb')), World.putObj_heap_other (fun e => hb (by rw [e]; simp))], by rw [h.size]; simp [World.putObj], h.os, h.tape, h.output⟩
theorem leave_app {F : Fence} {n : Nat} {P : Program} {fn : Func} {tmps : Array Value} {R : Ending → World → Prop} {u : FrameMode} (hu : u ≠ .run) (rest : List Deferred) : ∀ (ds : List Deferred) (w : World), strip ds = [] → (marks ds).Nodup → (∀ r ∈ marks ds, w.heap[r]? = some (.deferred (some []))) →
    (∀ w', Shut (marks ds) w w' → LeavesInM F n P fn tmps R rest u w') → LeavesInM F n P fn tmps R (ds ++ rest) u w
  | [], w, _, _, _, h => h w (Shut.refl w)
  | d :: ds, w, hs, hn, hm, h => by
    obtain ⟨t, args⟩ := d
    obtain ⟨hd, hs⟩ := strip_cons hs
    obtain ⟨r, rfl⟩ := isMark_col hd
    have e1 : marks ({ target := .collected r, args := args } :: ds) = r :: marks ds := by simp [marks, markOf]
    rw [e1] at hn hm h
    obtain ⟨hn1, hn2⟩ := List.nodup_cons.1 hn
    have hr := hm r (by simp)
    refine ⟨hu, .inl ⟨r, _, rfl, run_takeDeferred hr, leave_app hu rest ds _ hs hn2 (fun q hq => ?_) fun w' hw' => h w' hw'.cons⟩⟩
    rw [World.putObj_heap_other (fun e => hn1 (by rw [← e]; exact hq))]; exact hm q (List.mem_cons_of_mem _ hq)
theorem leave_marks {F : Fence} {n : Nat} {P : Program} {fn : Func} {tmps : Array Value} {R : Ending → World → Prop} {u : FrameMode} (hu : u ≠ .run) (ds : List Deferred) (w : World) (hs : strip ds = []) (hn : (marks ds).Nodup) (hm : ∀ r ∈ marks ds, w.heap[r]? = some (.deferred (some [])))
    (h : ∀ w', Shut (marks ds) w w' → LeavesInM F n P fn tmps R [] u w') : LeavesInM F n P fn tmps R ds u w := by
  have := leave_app hu [] ds w hs hn hm h
  rwa [List.append_nil] at this
theorem strip_one {d0 : Deferred} : ∀ {ds : List Deferred}, strip ds = [d0] → ∃ m1 m2, ds = m1 ++ d0 :: m2 ∧ strip m1 = [] ∧ strip m2 = []
  | [], h => by simp [strip] at h
  | d :: ds, h => by
    cases hd : isMark d with
    | true =>
      obtain ⟨m1, m2, e, h1, h2⟩ := strip_one (ds := ds) (by simpa [strip, hd] using h)
      exact ⟨d :: m1, m2, by rw [e]; rfl, by simp only [strip, List.filter_cons, hd] at *; simpa using h1, h2⟩
    | false =>
      have : d :: strip ds = [d0] := by simpa [strip, hd] using h
      obtain ⟨e1, e2⟩ := List.cons.inj this
      exact ⟨[], ds, by rw [e1]; rfl, rfl, e2⟩
/-- A frame on its way out, that only marks hold up. -/
theorem marks_steps {P : Program} {cs : List Frame} : ∀ (ds : List Deferred) (fr : Frame) (w : World), fr.mode ≠ .run → fr.defers = ds → strip ds = [] → (marks ds).Nodup → (∀ r ∈ marks ds, w.heap[r]? = some (.deferred (some []))) →
    ∃ w', Shut (marks ds) w w' ∧ Steps P (lone fr cs w) (lone { fr with defers := [] } cs w')
  | [], fr, w, _, hd, _, _, _ => ⟨w, Shut.refl w, by rw [← hd]; exact Steps.refl P _⟩
  | d :: ds, fr, w, hu, hfd, hs, hn, hm => by
    obtain ⟨t, args⟩ := d
    obtain ⟨hd, hs⟩ := strip_cons hs
    obtain ⟨r, rfl⟩ := isMark_col hd
    have e1 : marks ({ target := .collected r, args := args } :: ds) = r :: marks ds := by simp [marks, markOf]
    rw [e1] at hn hm
    obtain ⟨hn1, hn2⟩ := List.nodup_cons.1 hn
    have h1 := step_collected (P := P) (cs := cs) hu hfd rfl (run_takeDeferred (hm r (by simp)))
    obtain ⟨w', h2, h3⟩ := marks_steps (P := P) (cs := cs) ds { fr with defers := [] ++ ds } (w.putObj r (.deferred none)) hu rfl hs hn2 (fun q hq => by
      rw [World.putObj_heap_other (fun e : q = r => hn1 (by rw [← e]; exact hq))]; exact hm q (List.mem_cons_of_mem _ hq))
    exact ⟨w', by rw [e1]; exact h2.cons, .head h1 h3⟩

theorem marks_lt {W0 : World} {L0 L : Lay} {e : List AV} {s : Sto} {w : World} {a : Act} (hr : Rel W0 L0 L e s w a) {b : Nat} {o : Obj} (hb : w.heap[b]? = some o) (ho : ∀ x, o ≠ .deferred x) : b ∉ marks a.defers := fun hm => by
  have := (hr.mks.2 b hm).1
  rw [hb] at this
  cases this
  exact ho _ rfl

theorem mem_shut {L : Lay} {w w' : World} (h2 : ∀ b : Nat, L.own b = none → b < w.heap.size → w'.heap[b]? = w.heap[b]?) : (L.mem w).le (L.mem w') := look_le fun b hb hlt => ⟨hb, h2 b hb hlt⟩
theorem OwnRow.shut {L : Lay} {w w' : World} (h1 : ∀ (b : Nat) (c : Array Value) (t : TypeId) (f : Nat × Nat), w.heap[b]? = some (.cells c t f) → w'.heap[b]? = some (.cells c t f)) (h2 : ∀ b : Nat, L.own b = none → b < w.heap.size → w'.heap[b]? = w.heap[b]?) {g e s : Nat} {rows : List (List D)} {u : Value} (k : OwnRow L w g e s rows u) : OwnRow L w' g e s rows u := by
  obtain ⟨xs, k1, k2, k3, k5, k4⟩ := k
  refine ⟨xs, ⟨k1.1, ?_⟩, k2, k3, k5, DReps.mono (mem_shut h2) _ _ k4⟩
  rcases k1.2 with hn | ⟨b, cap, cur, e1, e2, e3, rest⟩
  · exact .inl hn
  · exact .inr ⟨b, cap, cur, e1, e2, h1 _ _ _ _ e3, rest⟩
mutual
theorem ARep.shut {L : Lay} {w w' : World} (h1 : ∀ (b : Nat) (c : Array Value) (t : TypeId) (f : Nat × Nat), w.heap[b]? = some (.cells c t f) → w'.heap[b]? = some (.cells c t f)) (h2 : ∀ b : Nat, L.own b = none → b < w.heap.size → w'.heap[b]? = w.heap[b]?) : ∀ (x : AV) (u : Value), ARep L w x u → ARep L w' x u
  | .any, _, _ => trivial
  | .d x, u, hr => DRep.mono (mem_shut h2) x u hr
  | .own _ _ _ _, _, ⟨e, hr⟩ => ⟨e, OwnRow.shut h1 h2 hr⟩
  | .eref _ _ _ _ _ _, _, ⟨hr, hi, b, n, c, e1, e2⟩ => ⟨OwnRow.shut h1 h2 hr, hi, b, n, c, e1, e2⟩
  | .ref _ _, _, e => e
  | .tup xs, _, ⟨us, e, k1⟩ => ⟨us, e, AReps.shut h1 h2 xs _ k1⟩
  | .agg xs, _, ⟨us, e, k1⟩ => ⟨us, e, AReps.shut h1 h2 xs _ k1⟩
  | .clo _ x y, _, ⟨xs, ys, e, k1, k2⟩ => ⟨xs, ys, e, AReps.shut h1 h2 x _ k1, AReps.shut h1 h2 y _ k2⟩
  | .iface _ x, _, ⟨y, e, k1⟩ => ⟨y, e, ARep.shut h1 h2 x y k1⟩
  | .yld _ _ _ _, _, k => k
  | .mp _, _, k => k
theorem AReps.shut {L : Lay} {w w' : World} (h1 : ∀ (b : Nat) (c : Array Value) (t : TypeId) (f : Nat × Nat), w.heap[b]? = some (.cells c t f) → w'.heap[b]? = some (.cells c t f)) (h2 : ∀ b : Nat, L.own b = none → b < w.heap.size → w'.heap[b]? = w.heap[b]?) : ∀ (xs : List AV) (us : List Value), AReps L w xs us → AReps L w' xs us
  | [], _, k => k
  | x :: xs, _, ⟨u, ut, e, k1, k2⟩ => ⟨u, ut, e, ARep.shut h1 h2 x u k1, AReps.shut h1 h2 xs ut k2⟩
end
theorem Held.shut {L : Lay} {w w' : World} (h1 : ∀ (b : Nat) (c : Array Value) (t : TypeId) (f : Nat × Nat), w.heap[b]? = some (.cells c t f) → w'.heap[b]? = some (.cells c t f)) (h4 : ∀ (b : Nat) (c : Array MapEntry) (t : Nat), w.heap[b]? = some (.map c t) → w'.heap[b]? = some (.map c t)) (h3 : ∀ (b : Nat) (r : Loop), w.heap[b]? = some (.loop r) → w'.heap[b]? = some (.loop r)) {g : Nat} {vs : List Value} (k : Held L w g vs) : Held L w' g vs := by
  unfold Held at k ⊢
  split at k
  · obtain ⟨e0, ⟨e3, c, t, e1, e2⟩ | ⟨e3, c, t, e1, e2⟩⟩ := k
    · exact ⟨e0, .inl ⟨e3, c, t, h1 _ _ _ _ e1, e2⟩⟩
    · exact ⟨e0, .inr ⟨e3, c, t, h4 _ _ _ e1, e2⟩⟩
  · obtain ⟨e0, z, e1, e2⟩ := k; exact ⟨e0, z, h3 _ _ e1, e2⟩

theorem Rel.shutP {W0 : World} {L0 L : Lay} {e : List AV} {s : Sto} {w w' : World} {a a2 : Act} {ms : List Nat} (hr : Rel W0 L0 L e s w a) (h : Shut ms w w') (hms : ∀ b ∈ ms, b ∈ marks a.defers) (ht : a2.tmps = a.tmps) (hst : strip a2.defers = strip a.defers) (hm2 : ∀ r ∈ marks a2.defers, r ∈ marks a.defers ∧ r ∉ ms) (hnd : (marks a2.defers).Nodup) : Rel W0 L0 L e s w' a2 := by
  have h1 : ∀ (b : Nat) (o : Obj), w.heap[b]? = some o → (∀ x, o ≠ Obj.deferred x) → w'.heap[b]? = some o := fun b o hb ho => by rw [h.heap b (fun hm => marks_lt hr hb ho (hms b hm))]; exact hb
  have h1' : ∀ (b : Nat) (c : Array Value) (t : TypeId) (f : Nat × Nat), w.heap[b]? = some (.cells c t f) → w'.heap[b]? = some (.cells c t f) := fun b c t f hb => h1 b _ hb (by simp)
  have h2 : ∀ b : Nat, L.own b = none → b < w.heap.size → w'.heap[b]? = w.heap[b]? := fun b hb _ => h.heap b fun hm => by rw [(hr.mks.2 b (hms b hm)).2] at hb; cases hb
  exact
    { slots := by rw [ht]; exact AReps.shut h1' h2 _ _ hr.slots
      hid := by obtain ⟨vs, e1, e2⟩ := hr.hid; exact ⟨vs, e1, by rw [← e2, hst]⟩
      rd := hr.rd
      mks := ⟨hnd, fun r hr' => ⟨(h.heap r (hm2 r hr').2).trans (hr.mks.2 r (hm2 r hr').1).1, (hr.mks.2 r (hm2 r hr').1).2⟩⟩
      mkb := fun r hr' => hr.mkb r (hm2 r hr').1
      kept := fun b o hb => ⟨let ⟨o', h1', h3⟩ := (hr.kept b o hb).1; ⟨o', (h.heap b fun hm => (hr.mkb b (hms b hm)).2 o hb).trans h1', h3⟩, (hr.kept b o hb).2⟩
      rdk := hr.rdk
      lke := hr.lke
      lkb := by rw [h.size]; exact hr.lkb
      lki := hr.lki
      objs := fun g c hc => ⟨fun h0 => AReps.shut h1' h2 _ _ ((hr.objs g c hc).1 h0), fun h0 => by
        obtain ⟨vs, e1, e2⟩ := (hr.objs g c hc).2 h0
        exact ⟨vs, Held.shut h1' (fun b c t hb => h1 b _ hb (by simp)) (fun b r hb => h1 b _ hb (by simp)) e1, AReps.shut h1' h2 _ _ e2⟩⟩
      old := fun b hb h0 => ⟨(hr.old b hb h0).1, (h.heap b fun hm => by have := (hr.mkb b (hms b hm)).1; omega).trans (hr.old b hb h0).2⟩
      size := by rw [h.size]; exact hr.size
      own_lt := fun b g hb => by rw [h.size]; exact hr.own_lt b g hb
      os := h.os.trans hr.os
      tape := h.tape.trans hr.tape
      output := h.output.trans hr.output }
/-- What the slots read as, behind the shutting; the deferred calls are gone. -/
theorem Rel.shut {W0 : World} {L0 L : Lay} {e : List AV} {s : Sto} {w w' : World} {a : Act} (hr : Rel W0 L0 L e s w a) (hs : strip a.defers = []) (h : Shut (marks a.defers) w w') : Rel W0 L0 L e s w' { a with defers := [] } :=
  hr.shutP h (fun _ h => h) rfl (by rw [hs]; rfl) (by simp [marks]) (by simp [marks])
end Go.E

namespace Go.E
open Go Go.RowKit

/-! ### A loop's record turns: nothing else does -/
def zcell (z : Int) : AV := .d (.v (.int .i64 z))
theorem zcell_rep {L : Lay} {w : World} {z : Int} {u : Value} (h : ARep L w (zcell z) u) : u = .int .i64 z := h

theorem Held.loop {L : Lay} {w : World} {g : Nat} {vs : List Value} {r : LoopS} (h : Held L w g vs) (hk : L.lk g = some r) : L.own r.l = some 0 ∧ ∃ z : Int, w.heap[r.l]? = some (.loop (r.at z)) ∧ vs = .int .i64 z :: r.tm.toList := by
  unfold Held at h; rw [hk] at h; exact h

/-- Entry g, at hand: the record's block, its state. -/
theorem loop_at {W0 : World} {L0 L : Lay} {e : List AV} {s : Sto} {w : World} {a : Act} (hr : Rel W0 L0 L e s w a) {g : Nat} {r : LoopS} {z : Int} {sn : List AV} (hk : L.lk g = some r) (hs : s.get g = some (zcell z :: sn)) : L.own r.l = some 0 ∧ w.heap[r.l]? = some (.loop (r.at z)) ∧ AReps L w sn r.tm.toList := by
  have hg : g ≠ 0 := fun h => by have := (hr.lkb g r (by rw [← hr.lke]; exact hk)).1; omega
  obtain ⟨vs, h1, h2⟩ := (hr.objs g _ hs).2 hg
  obtain ⟨h3, z', h4, h5⟩ := h1.loop hk
  rw [h5] at h2
  obtain ⟨u, ut, e1, h6, h7⟩ := h2
  obtain ⟨rfl, rfl⟩ := List.cons.inj e1
  have := zcell_rep h6
  cases this
  exact ⟨h3, h4, h7⟩

theorem Rel.turn {W0 : World} {L0 L : Lay} {e : List AV} {s : Sto} {w : World} {a : Act} (hr : Rel W0 L0 L e s w a) {g : Nat} {r : LoopS} {z z' : Int} {sn : List AV} (hk : L.lk g = some r) (hs : s.get g = some (zcell z :: sn)) :
    Rel W0 L0 L e (s.upd g (zcell z' :: sn)) (w.putObj r.l (.loop (r.at z'))) a := by
  obtain ⟨hown, hheap, hsn⟩ := loop_at hr hk hs
  have hg : g ≠ 0 := fun h => by have := (hr.lkb g r (by rw [← hr.lke]; exact hk)).1; omega
  have hk0 : L0.lk g = some r := by rw [← hr.lke]; exact hk
  have hoth : ∀ b, b ≠ r.l → (w.putObj r.l (.loop (r.at z'))).heap[b]? = w.heap[b]? := fun b hb => World.putObj_heap_other hb
  have hthis : (w.putObj r.l (.loop (r.at z'))).heap[r.l]? = some (.loop (r.at z')) := World.putObj_heap_same (lt_of_heap hheap)
  have hsz : (w.putObj r.l (.loop (r.at z'))).heap.size = w.heap.size := by simp [World.putObj]
  generalize hW : w.putObj r.l (.loop (r.at z')) = w' at *
  have h1 : ∀ (b : Nat) (c : Array Value) (t : TypeId) (f : Nat × Nat), w.heap[b]? = some (.cells c t f) → w'.heap[b]? = some (.cells c t f) := fun b c t f hb => by
    rw [hoth b (fun h => by rw [h, hheap] at hb; cases hb)]; exact hb
  have h1m : ∀ (b : Nat) (c : Array MapEntry) (t : Nat), w.heap[b]? = some (.map c t) → w'.heap[b]? = some (.map c t) := fun b c t hb => by
    rw [hoth b (fun h => by rw [h, hheap] at hb; cases hb)]; exact hb
  have h2 : ∀ b : Nat, L.own b = none → b < w.heap.size → w'.heap[b]? = w.heap[b]? := fun b hb _ => hoth b fun h => by rw [h, hown] at hb; cases hb
  have hall := fun xs us => AReps.shut h1 h2 xs us
  exact
    { slots := hall _ _ hr.slots
      hid := hr.hid
      rd := hr.rd
      mks := ⟨hr.mks.1, fun q hq => ⟨(hoth q fun h => by have := (hr.mks.2 q hq).1; rw [h, hheap] at this; cases this).trans (hr.mks.2 q hq).1, (hr.mks.2 q hq).2⟩⟩
      mkb := hr.mkb
      kept := fun b o hb => by
        obtain ⟨⟨o', q1, q2⟩, q3⟩ := hr.kept b o hb
        refine ⟨?_, q3⟩
        by_cases hbl : b = r.l
        · subst hbl
          rw [hheap] at q1
          cases q1
          refine ⟨_, hthis, ?_⟩
          cases o <;> first | exact ⟨_, rfl⟩ | (cases (show _ = _ from q2))
        · exact ⟨o', (hoth b hbl).trans q1, q2⟩
      rdk := hr.rdk
      lke := hr.lke
      lkb := by rw [hsz]; exact hr.lkb
      lki := hr.lki
      objs := fun h c hc => by
        rw [Sto.get_upd] at hc
        by_cases hgh : g = h
        · subst hgh
          rw [if_pos rfl, hs] at hc
          simp at hc; subst hc
          refine ⟨fun h0 => absurd h0 hg, fun _ => ⟨.int .i64 z' :: r.tm.toList, ?_, ⟨_, _, rfl, rfl, hall _ _ hsn⟩⟩⟩
          unfold Held; rw [hk]
          exact ⟨hown, z', hthis, rfl⟩
        · rw [if_neg hgh] at hc
          refine ⟨fun h0 => hall _ _ ((hr.objs h c hc).1 h0), fun h0 => ?_⟩
          obtain ⟨vs, q1, q2⟩ := (hr.objs h c hc).2 h0
          refine ⟨vs, ?_, hall _ _ q2⟩
          unfold Held at q1 ⊢
          split at q1
          · obtain ⟨k0, ⟨k3, c', t, k1, k2⟩ | ⟨k3, c', t, k1, k2⟩⟩ := q1
            · exact ⟨k0, .inl ⟨k3, c', t, h1 _ _ _ _ k1, k2⟩⟩
            · exact ⟨k0, .inr ⟨k3, c', t, h1m _ _ _ k1, k2⟩⟩
          · rename_i r' hk'
            obtain ⟨k0, z2, k1, k2⟩ := q1
            refine ⟨k0, z2, (hoth _ fun hl => hgh ?_).trans k1, k2⟩
            exact (hr.lki h g r' r (by rw [← hr.lke]; exact hk') hk0 hl).symm
      old := fun b hb h0 => ⟨(hr.old b hb h0).1, (hoth b fun h => by have := (hr.lkb g r hk0).2.1; omega).trans (hr.old b hb h0).2⟩
      size := by rw [hsz]; exact hr.size
      own_lt := fun b g' hb => by rw [hsz]; exact hr.own_lt b g' hb
      os := by rw [← hW]; exact hr.os
      tape := by rw [← hW]; exact hr.tape
      output := by rw [← hW]; exact hr.output }

/-! ### Into a range over a function -/
def Lay.loop (L : Lay) (G : Nat) (r : LoopS) : Lay := { L with lk := fun g => if g = G then some r else L.lk g }
theorem marks_lt' {W0 : World} {L0 L : Lay} {e : List AV} {s : Sto} {w : World} {a : Act} (hr : Rel W0 L0 L e s w a) {q : Nat} (h : q ∈ marks a.defers) : q < w.heap.size := lt_of_heap (hr.mks.2 q h).1

theorem rel_enter {W0 : World} {L0 L : Lay} {e : List AV} {s : Sto} {w w' : World} {a : Act} {G : Nat} {r : LoopS} {ms : List Deferred} (hr : Rel W0 L0 L e s w a) (hG : 1000000000 ≤ G ∧ G < 2000000000) (hm : AV.mens G e = false) (hs : s.mens G = false) (hg : s.get G = none)
    (hb : Below w.heap.size w w') (hl1 : w.heap.size ≤ r.l) (hl2 : w'.heap[r.l]? = some (.loop (r.at 0))) (htm : r.tm = a.tmps) (hms : strip ms = []) (hmn : (marks ms).Nodup) (hmm : ∀ q ∈ marks ms, w.heap.size ≤ q ∧ w'.heap[q]? = some (.deferred (some []))) :
    ∃ L', Rel W0 (L0.loop G r) L' e (s.ins G (zcell 0 :: e)) w' { a with defers := ms ++ a.defers } ∧ L'.lk G = some r := by
  have hG0 : G ≠ 0 := by omega
  let L' : Lay := { L with own := fun b => if w.heap.size ≤ b ∧ b < w'.heap.size then some 0 else L.own b, lk := fun g => if g = G then some r else L.lk g }
  have hheap : ∀ b, b < w.heap.size → w'.heap[b]? = w.heap[b]? := fun b hlt => hb.block b hlt
  have hown : ∀ b, b < w.heap.size → L'.own b = L.own b := fun b hlt => by simp only [L']; rw [if_neg (by omega)]
  have hnew : ∀ b, w.heap.size ≤ b → b < w'.heap.size → L'.own b = some 0 := fun b h1 h2 => by simp only [L']; rw [if_pos ⟨h1, h2⟩]
  have hsame : Same G L w L' w' := ⟨fun b hlt _ => ⟨hheap b hlt, hown b hlt⟩, fun _ _ => rfl, fun _ _ => rfl, rfl, fun g hg => by simp [L', hg]⟩
  have hlt := lt_of_heap hl2
  refine ⟨L', ?_, by simp [L']⟩
  exact
    { slots := AReps.same hsame _ _ hm hr.slots
      hid := by obtain ⟨vs, e1, e2⟩ := hr.hid; exact ⟨vs, e1, by rw [← e2]; simp only [strip, List.filter_append] at hms ⊢; rw [hms]; rfl⟩
      rd := hr.rd
      mks := by
        rw [marks_app]
        refine ⟨List.nodup_append.2 ⟨hmn, hr.mks.1, fun x hx y hy hxy => ?_⟩, fun q hq => ?_⟩
        · have := (hmm x hx).1; have := marks_lt' hr hy; omega
        · rcases List.mem_append.1 hq with h | h
          · exact ⟨(hmm q h).2, hnew q (hmm q h).1 (lt_of_heap (hmm q h).2)⟩
          · have hlt := marks_lt' hr h
            exact ⟨(hheap q hlt).trans (hr.mks.2 q h).1, (hown q hlt).trans (hr.mks.2 q h).2⟩
      mkb := fun q hq => by
        rw [marks_app] at hq
        rcases List.mem_append.1 hq with h | h
        · refine ⟨Nat.le_trans hr.size (hmm q h).1, fun o ho => ?_⟩
          obtain ⟨⟨o', h1, _⟩, _⟩ := hr.kept q o ho
          have := lt_of_heap h1; have := (hmm q h).1; omega
        · exact hr.mkb q h
      kept := fun b o ho => by
        obtain ⟨⟨o', h1, h3⟩, h2⟩ := hr.kept b o ho
        have hlt := lt_of_heap h1
        exact ⟨⟨o', (hheap b hlt).trans h1, h3⟩, (hown b hlt).trans h2⟩
      rdk := hr.rdk
      lke := by simp only [L', Lay.loop]; rw [hr.lke]
      lkb := fun g r' h => by
        simp only [Lay.loop] at h
        split at h
        · rename_i e1; cases h; exact ⟨by omega, Nat.le_trans hr.size hl1, hlt⟩
        · have := hr.lkb g r' h; exact ⟨this.1, this.2.1, Nat.lt_of_lt_of_le this.2.2 hb.size⟩
      lki := fun g g' r1 r2 h1 h2 hl => by
        simp only [Lay.loop] at h1 h2
        split at h1 <;> split at h2
        · rename_i e1 e2; rw [e1, e2]
        · cases h1; have := (hr.lkb g' r2 h2).2.2; omega
        · cases h2; have := (hr.lkb g r1 h1).2.2; omega
        · exact hr.lki g g' r1 r2 h1 h2 hl
      objs := fun h c hc => by
        rw [Sto.get_ins hg] at hc
        split at hc
        · rename_i e1; subst e1
          simp at hc; subst hc
          refine ⟨fun h0 => absurd h0 hG0, fun _ => ⟨.int .i64 0 :: r.tm.toList, ?_, ⟨_, _, rfl, rfl, by rw [htm]; exact AReps.same hsame _ _ hm hr.slots⟩⟩⟩
          unfold Held; rw [show L'.lk G = some r by simp [L']]
          exact ⟨hnew _ hl1 hlt, 0, hl2, rfl⟩
        · rename_i hne
          exact ObjRep.same hsame (fun e => hne e.symm) hG0 (Sto.mens_get hs hc) (hr.objs h c hc)
      old := fun b hlt0 h0 => by
        have h1 := hr.old b hlt0 h0
        have hlt := Nat.lt_of_lt_of_le hlt0 hr.size
        exact ⟨(hown b hlt).trans h1.1, (hheap b hlt).trans h1.2⟩
      size := Nat.le_trans hr.size hb.size
      own_lt := fun b g h => by
        by_cases hlt : b < w.heap.size
        · exact Nat.lt_of_lt_of_le hlt hb.size
        · by_cases hlt' : b < w'.heap.size
          · exact hlt'
          · simp only [L'] at h; rw [if_neg (by omega)] at h; exact absurd (hr.own_lt b g h) hlt
      os := hb.os.trans hr.os
      tape := hb.tape.trans hr.tape
      output := hb.output.trans hr.output }

/-- Out of it again: the tag is forgotten, the record shut. -/
theorem rel_leave {W0 : World} {L0 L : Lay} {e : List AV} {s : Sto} {w : World} {a : Act} {G : Nat} {r : LoopS} {z : Int} {sn : List AV} (hr : Rel W0 (L0.loop G r) L e s w a) (hs : s.get G = some (zcell z :: sn)) (x : Loop)
    (hb0 : ∀ g r, L0.lk g = some r → (1000000000 ≤ g ∧ g < 2000000000) ∧ W0.heap.size ≤ r.l ∧ r.l < w.heap.size) (hi0 : ∀ g g' r r', L0.lk g = some r → L0.lk g' = some r' → r.l = r'.l → g = g') :
    Rel W0 L0 { L with lk := L0.lk } (e.map (AV.kill G)) (s.kill G) (w.putObj r.l (.loop x)) a := by
  have hkG : (L0.loop G r).lk G = some r := by simp [Lay.loop]
  have hk : L.lk G = some r := by rw [hr.lke]; exact hkG
  have hG0 : G ≠ 0 := fun h => by have := (hr.lkb G r hkG).1; omega
  obtain ⟨hown, hheap, hsn⟩ := loop_at hr hk hs
  have hr' := hr.kill G
  have hoth : ∀ b, b ≠ r.l → (w.putObj r.l (.loop x)).heap[b]? = w.heap[b]? := fun b hb => World.putObj_heap_other hb
  have hthis : (w.putObj r.l (.loop x)).heap[r.l]? = some (.loop x) := World.putObj_heap_same (lt_of_heap hheap)
  have hsz : (w.putObj r.l (.loop x)).heap.size = w.heap.size := by simp [World.putObj]
  generalize hW : w.putObj r.l (.loop x) = w' at *
  have hlk : ∀ g, g ≠ G → L0.lk g = L.lk g := fun g hg => by rw [hr.lke]; simp [Lay.loop, hg]
  have hsame : Same G L w { L with lk := L0.lk } w := ⟨fun _ _ _ => ⟨rfl, rfl⟩, fun _ _ => rfl, fun _ _ => rfl, rfl, hlk⟩
  have h1 : ∀ (b : Nat) (c : Array Value) (t : TypeId) (f : Nat × Nat), w.heap[b]? = some (.cells c t f) → w'.heap[b]? = some (.cells c t f) := fun b c t f hb => by
    rw [hoth b (fun h => by rw [h, hheap] at hb; cases hb)]; exact hb
  have h1m : ∀ (b : Nat) (c : Array MapEntry) (t : Nat), w.heap[b]? = some (.map c t) → w'.heap[b]? = some (.map c t) := fun b c t hb => by
    rw [hoth b (fun h => by rw [h, hheap] at hb; cases hb)]; exact hb
  have h2 : ∀ b : Nat, ({ L with lk := L0.lk } : Lay).own b = none → b < w.heap.size → w'.heap[b]? = w.heap[b]? := fun b hb _ => hoth b fun h => by rw [h] at hb; exact absurd (hown.symm.trans hb) (by simp)
  have hall : ∀ (xs : List AV) (us : List Value), AV.mens G xs = false → AReps L w xs us → AReps { L with lk := L0.lk } w' xs us := fun xs us hm h => AReps.shut h1 h2 _ _ (AReps.same hsame _ _ hm h)
  exact
    { slots := hall _ _ (mens_kill G e) hr'.slots
      hid := hr'.hid
      rd := hr.rd
      mks := ⟨hr.mks.1, fun q hq => ⟨(hoth q fun h => by have := (hr.mks.2 q hq).1; rw [h, hheap] at this; cases this).trans (hr.mks.2 q hq).1, (hr.mks.2 q hq).2⟩⟩
      mkb := hr.mkb
      kept := fun b o hb => by
        obtain ⟨⟨o', q1, q2⟩, q3⟩ := hr.kept b o hb
        refine ⟨?_, q3⟩
        by_cases hbl : b = r.l
        · subst hbl
          rw [hheap] at q1
          cases q1
          refine ⟨_, hthis, ?_⟩
          cases o <;> first | exact ⟨_, rfl⟩ | (cases (show _ = _ from q2))
        · exact ⟨o', (hoth b hbl).trans q1, q2⟩
      rdk := hr.rdk
      lke := rfl
      lkb := by rw [hsz]; exact hb0
      lki := hi0
      objs := fun h c hc => by
        have hne : h ≠ G := fun e => by rw [e, Sto.kill_none] at hc; cases hc
        have hmc := Sto.mens_get (Sto.mens_killed G s) hc
        refine ⟨fun h0 => hall _ _ hmc ((hr'.objs h c hc).1 h0), fun h0 => ?_⟩
        obtain ⟨vs, q1, q2⟩ := (hr'.objs h c hc).2 h0
        refine ⟨vs, ?_, hall _ _ hmc q2⟩
        unfold Held at q1 ⊢
        rw [show ({ L with lk := L0.lk } : Lay).lk h = L.lk h from hlk h hne]
        split at q1
        · rename_i hk'
          obtain ⟨k0, ⟨k3, c', t, k1, k2⟩ | ⟨k3, c', t, k1, k2⟩⟩ := q1
          · exact ⟨k0, .inl ⟨k3, c', t, h1 _ _ _ _ k1, k2⟩⟩
          · exact ⟨k0, .inr ⟨k3, c', t, h1m _ _ _ k1, k2⟩⟩
        · rename_i r' hk'
          obtain ⟨k0, z2, k1, k2⟩ := q1
          refine ⟨k0, z2, (hoth _ fun hl => hne ?_).trans k1, k2⟩
          exact hr.lki h G r' r (by rw [← hr.lke]; exact hk') hkG hl
      old := fun b hb h0 => ⟨(hr.old b hb h0).1, (hoth b fun h => by have := (hr.lkb G r hkG).2.1; omega).trans (hr.old b hb h0).2⟩
      size := by rw [hsz]; exact hr.size
      own_lt := fun b g' hb => by rw [hsz]; exact hr.own_lt b g' hb
      os := by rw [← hW]; exact hr.os
      tape := by rw [← hW]; exact hr.tape
      output := by rw [← hW]; exact hr.output }

theorem target_rep {P : Program} {L : Lay} {w : World} {X : AV} {args as : List AV} {g : Nat} {u : Value} {vs : Array Value} (h : target P X args = some (g, as)) (hX : ARep L w X u) (hargs : AReps L w args vs.toList) :
    ∃ x y : Array Value, u = .func (.func g) x y ∧ AReps L w as (x ++ vs ++ y).toList := by
  unfold target at h
  split at h
  · simp at h; obtain ⟨rfl, rfl⟩ := h
    rename_i x y
    exact ⟨x, y, hX, by simp only [Array.toList_append]; simpa using areps_append (areps_append (areps_vals x.toList) hargs) (areps_vals y.toList)⟩
  · simp at h; obtain ⟨rfl, rfl⟩ := h
    obtain ⟨xs, ys, hf, k1, k2⟩ := hX
    exact ⟨xs, ys, hf, by simp only [Array.toList_append]; simpa using areps_append (areps_append (areps_d k1) hargs) (areps_d k2)⟩
  · simp at h; obtain ⟨rfl, rfl⟩ := h
    obtain ⟨xs, ys, hf, k1, k2⟩ := hX
    exact ⟨xs, ys, hf, by simp only [Array.toList_append]; simpa using areps_append (areps_append k1 hargs) k2⟩
  · cases h

/-- The pending jump, taken up. -/
def jumpK (z : Int) (Q : Exit → List AV → Sto → Prop) (e : List AV) (s : Sto) : Prop :=
  if z = 0 then Q .normal e s else if z = -1 then Q .ret e s else if 2 ≤ z then Q (.exit (z - 2).toNat) e s else if z ≤ -2 then Q (.goto (-z - 2).toNat) e s else False
def rngK (G : Nat) (Q : Exit → List AV → Sto → Prop) (e : List AV) (s : Sto) : Prop :=
  match s.get G with
  | some (.d (.v (.int .i64 z)) :: _) => jumpK z Q (e.map (AV.kill G)) (s.kill G)
  | _ => False
/-- A range over a function: its loop bears the tag G. -/
def rngP (P : Program) (C : CT) (G : Nat) (f : Operand) (ps : Array Nat) (as bd : Code) (Q : Exit → List AV → Sto → Prop) (e : List AV) (s : Sto) : Prop :=
  ((1000000000 ≤ G ∧ G < 2000000000) ∧ AV.mens G e = false ∧ s.mens G = false ∧ s.get G = none) ∧ pcallo C (target P (aval e f) [.yld G ps.toList as bd]) (fun _ e' s' => rngK G Q e' s') (fun _ _ _ => False) e (s.ins G (zcell 0 :: e))

theorem enter_run {P : Program} {W0 : World} {L0 L : Lay} {e : List AV} {s : Sto} {w : World} {a : Act} (hr : Rel W0 L0 L e s w a) (fn : Nat) (ps : Array Nat) (as bd : Code) :
    ∃ (r : LoopS) (ms : List Deferred) (w1 : World), (Instr.enterLoop fn a.tmps ps as bd L0.ro).run P w = .ok (r.l, ms) w1 ∧ Below w.heap.size w w1 ∧ w.heap.size ≤ r.l ∧ w1.heap[r.l]? = some (.loop (r.at 0)) ∧ r.tm = a.tmps ∧ r.params = ps ∧ r.assign = as ∧ r.body = bd ∧ strip ms = [] ∧ (marks ms).Nodup ∧ ∀ q ∈ marks ms, w.heap.size ≤ q ∧ w1.heap[q]? = some (.deferred (some [])) := by
  cases hrd : L0.rd with
  | none =>
    refine ⟨⟨w.heap.size + 1, fn, ps, as, bd, w.heap.size, a.tmps⟩, _, _, by rw [show L0.ro = none from hrd]; exact run_enterLoop_outer fn a.tmps ps as bd, ?_, by simp, ?_, rfl, rfl, rfl, rfl, by simp [strip, isMark], by simp [marks, markOf], ?_⟩
    · exact ((Below.refl _ w).alloc (Nat.le_refl _) _).alloc (by simp) _
    · have := heap_alloc_new (w.alloc (.deferred (some []))) (.loop (LoopS.at ⟨w.heap.size + 1, fn, ps, as, bd, w.heap.size, a.tmps⟩ 0))
      rw [World.size_alloc] at this
      exact this
    · intro q hq
      simp [marks, markOf] at hq
      subst hq
      exact ⟨Nat.le_refl _, (RowKit.Below.heap_alloc (w.alloc (.deferred (some []))) _ w.heap.size (by simp)).trans (heap_alloc_new w _)⟩
  | some l0 =>
    obtain ⟨r0, hkp⟩ := hr.rdk l0 hrd
    obtain ⟨⟨o', h1, r1, rfl⟩, _⟩ := hr.kept l0 _ hkp
    refine ⟨⟨w.heap.size, fn, ps, as, bd, r1.defers, a.tmps⟩, _, _, by rw [show L0.ro = some l0 from hrd]; exact run_enterLoop_inner h1 fn a.tmps ps as bd, ?_, by simp, ?_, rfl, rfl, rfl, rfl, by simp [strip], by simp [marks], by simp [marks]⟩
    · exact (Below.refl _ w).alloc (Nat.le_refl _) _
    · exact heap_alloc_new w _

theorem not_busy {r : LoopS} {z : Int} {Q : Exit → List AV → Sto → Prop} {e : List AV} {s : Sto} (h : jumpK z Q e s) : (r.at z).state ≠ .busy := by
  show (lstate z).1 ≠ .busy
  unfold jumpK at h
  unfold lstate
  by_cases h0 : z = 0
  · rw [if_pos h0]; simp
  · rw [if_neg h0] at h ⊢
    by_cases h1 : z = 1
    · subst h1
      rw [if_neg (by decide), if_neg (by decide), if_neg (by decide)] at h
      exact h.elim
    · rw [if_neg h1]
      by_cases h2 : z = -1
      · rw [if_pos h2]; simp
      · rw [if_neg h2]
        by_cases h3 : 2 ≤ z
        · rw [if_pos h3]; simp
        · rw [if_neg h3]; simp
/-- The jump, taken up by the activation. -/
theorem jump_sound {P : Program} {W0 : World} {L0 L : Lay} {e : List AV} {s : Sto} {w : World} {a : Act} {r : LoopS} {z : Int} {Q : Exit → List AV → Sto → Prop} (hr : Rel W0 L0 L e s w a) (h : jumpK z Q e s) :
    match (r.at z).pending with | none => lift W0 L0 Q .normal a w | some c => c.wpIn (FW L0.ro) 0 P (lift W0 L0 Q) a w := by
  show match (lstate z).2 with | none => _ | some c => _
  unfold jumpK at h
  unfold lstate
  by_cases h0 : z = 0
  · rw [if_pos h0] at h ⊢; exact ⟨L, e, s, hr, h⟩
  · rw [if_neg h0] at h ⊢
    by_cases h2 : z = -1
    · rw [if_pos h2] at h
      rw [if_neg (by omega), if_pos h2]
      exact wpIn_ret ⟨L, e, s, hr, h⟩
    · rw [if_neg h2] at h
      by_cases h3 : 2 ≤ z
      · rw [if_pos h3] at h
        rw [if_neg (by omega), if_neg h2, if_pos h3]
        exact wpIn_exit ⟨L, e, s, hr, h⟩
      · rw [if_neg h3] at h
        by_cases h4 : z ≤ -2
        · rw [if_pos h4] at h
          rw [if_neg (by omega), if_neg h2, if_neg h3]
          exact wpIn_goto ⟨L, e, s, hr, h⟩
        · rw [if_neg h4] at h; exact h.elim
theorem rng_end {P : Program} {W0 : World} {L0 L L2 : Lay} {e e2 : List AV} {s s2 : Sto} {w w2 : World} {a a2 : Act} {G : Nat} {r : LoopS} {Q : Exit → List AV → Sto → Prop} (hr : Rel W0 L0 L e s w a) (hl1 : w.heap.size ≤ r.l) (hr2 : Rel W0 (L0.loop G r) L2 e2 s2 w2 a2) (hq : rngK G Q e2 s2) :
    ∃ jump w4, (Instr.endLoop r.l).run P w2 = .ok jump w4 ∧ (match jump with | none => lift W0 L0 Q .normal a2 w4 | some c => c.wpIn (FW L0.ro) 0 P (lift W0 L0 Q) a2 w4) := by
  unfold rngK at hq
  split at hq
  case h_2 => exact hq.elim
  rename_i z sn hs2
  have hkG : (L0.loop G r).lk G = some r := by simp [Lay.loop]
  have hk2 : L2.lk G = some r := by rw [hr2.lke]; exact hkG
  have hat := loop_at (z := z) hr2 hk2 hs2
  have hsz : w.heap.size ≤ w2.heap.size := by have := (hr2.lkb G r hkG).2.2; omega
  refine ⟨_, _, run_endLoop hat.2.1 (not_busy hq), ?_⟩
  exact jump_sound (r := r) (rel_leave (z := z) hr2 hs2 _ (fun g r1 h => ⟨(hr.lkb g r1 h).1, (hr.lkb g r1 h).2.1, Nat.lt_of_lt_of_le (hr.lkb g r1 h).2.2 hsz⟩) hr.lki) hq

/-- A piece of code in the model's own terms: what is shown by rules of its own (loops, regions whose order is open). -/
def psem (P : Program) (c : Code) (Q : Exit → List AV → Sto → Prop) (e : List AV) (s : Sto) : Prop :=
  ∀ W0 L0 L w a, Rel W0 L0 L e s w a → c.wpIn (FW L0.ro) 0 P (lift W0 L0 Q) a w
theorem rng_sound {P : Program} {C : CT} (hC : C.okf P) {G : Nat} {f : Operand} {ps : Array Nat} {as bd : Code} {Q : Exit → List AV → Sto → Prop} {e : List AV} {s : Sto} (h : rngP P C G f ps as bd Q e s) : psem P (.rangeFunc f ps as bd) Q e s := fun W0 L0 L w a hr => by
  obtain ⟨⟨hG, hme, hms, hsg⟩, h⟩ := h
  unfold pcallo at h
  split at h
  case h_2 => exact h.elim
  rename_i g as' ht
  refine wpIn_rangeFunc fun fn _ => ?_
  obtain ⟨r, ms, w1, hrun, hbl, hl1, hl2, htm, hps, has, hbd, hms', hmn, hmm⟩ := enter_run (P := P) hr fn ps as bd
  obtain ⟨L', hr1, hk⟩ := rel_enter hr hG hme hms hsg hbl hl1 hl2 htm hms' hmn hmm
  have hX := aval_rep hr1.slots f
  have hY : ARep L' w1 (.yld G ps.toList as bd) (.func (.yield r.l) #[] #[]) := ⟨r, hk, rfl, by rw [hps], has, hbd⟩
  have hev : ({ a with defers := ms ++ a.defers } : Act).eval f = a.eval f := by cases f <;> rfl
  rw [hev] at hX
  obtain ⟨xs, ys, hu, hargs⟩ := target_rep (vs := #[.func (.yield r.l) #[] #[]]) ht hX ⟨_, _, rfl, hY, rfl⟩
  obtain ⟨hcal, hcall⟩ := hC _ _ _ _ _ _ h
  have hc := callsFW (r := L0.ro) (n := 0) |>.2 ((hcall W0 (L0.loop G r) L' w1 _ _ hr1 hargs).mono (R' := rangePost (FW L0.ro) 0 P r.l (lift W0 L0 Q) { a with defers := ms ++ a.defers }) fun en w2 hen => by
    cases en with
    | returned v =>
      obtain ⟨L2, e2, s2, rv, hr2, _, hq⟩ := hen
      exact rng_end hr hl1 hr2 hq
    | panicked c => obtain ⟨_, _, _, _, hq⟩ := hen; exact hq.elim
    | outgrown => exact hen.elim)
  have hres : (resolve a.eval (rangeCall f r.l) 0).run P w1 = .ok { target := .fn (.func g) ys, args := xs ++ #[.func (.yield r.l) #[] #[]] } w1 := by
    unfold resolve rangeCall
    simp only [hu, Deferred.ofValue, Sem.run_pure]
    simp [Act.eval]
  have hinv : (invoke (.fn (.func g) ys) (xs ++ #[.func (.yield r.l) #[] #[]])).run P w1 = .ok (.enter g (xs ++ #[.func (.yield r.l) #[] #[]] ++ ys)) w1 := by
    simp only [invoke]; exact callable_run hcal _ _
  exact ⟨r.l, ms, w1, _, w1, g, _, w1, hrun, hres, fun _ _ => trivial, hinv, FW_depth, hc⟩
end Go.E

namespace Go.E
open Go

/-! ### A region in the text's order -/
def gv (ops : List Oper) (e : List AV) (j : Nat) : AV := match (ops[j]?).bind (·.dst) with | some d => e.getD d .any | none => .any
/-- What a guard's slot yields: a Bool, or nothing. -/
def AV.gd : AV → Option (Option Bool)
  | .d (.v (.bool b)) => some (some b)
  | .d (.v (.tuple ⟨[]⟩)) => some none
  | _ => none
def pguard (c p q : Prop) : Prop := (c → p) ∧ (¬ c → q)

def pops (P : Program) (C : CT) (tb : Nat) (ops : List Oper) : List Oper → (Exit → List AV → Sto → Prop) → List AV → Sto → Prop
  | [], Q, e, s => Q .normal e s
  | o :: rest, Q, e, s =>
    match o.guard with
    | none => pop P C tb o (pops P C tb ops rest Q) Q e s
    | some (j, want) => match (gv ops e j).gd with
      | some z => (match k0 o.op with
       | true => gif (z == some want) (ps P s [] o.op (aval e)) True ∧ pops P C tb ops rest Q (eset e o.dst (gif (z == some want) (pv P s o.op (aval e)) .no)) s
       | false => pguard (z = some want) (pop P C tb o (pops P C tb ops rest Q) Q e s) (pops P C tb ops rest Q (eset e o.dst .no) s))
      | none => False

theorem AV.gd_rep {L : Lay} {w : World} {x : AV} {u : Value} {z : Option Bool} (h : x.gd = some z) (k : ARep L w x u) : (∃ b, u = .bool b ∧ z = some b) ∨ (u = undef ∧ z = none) := by
  unfold AV.gd at h
  split at h
  · cases h; exact .inl ⟨_, k, rfl⟩
  · cases h; exact .inr ⟨k, rfl⟩
  · cases h
theorem gv_yielded {L : Lay} {w : World} {ops : List Oper} {e : List AV} {a : Act} {j : Nat} {z : Option Bool} (h : (gv ops e j).gd = some z) (hr : AReps L w e a.tmps.toList) : yielded ops.toArray a.tmps j = z := by
  unfold gv at h
  cases hd : (ops[j]?).bind (·.dst) with
  | none => rw [hd] at h; cases h
  | some d =>
    rw [hd] at h
    simp only at h
    cases he : e[d]? with
    | none => simp [List.getD, he, AV.gd] at h
    | some x =>
      obtain ⟨u, hu, hx⟩ := hr.get d x he
      have hg : e.getD d .any = x := by simp [List.getD, he]
      rw [hg] at h
      have hu' : a.tmps[d]? = some u := by simpa using hu
      rcases AV.gd_rep h hx with ⟨b, rfl, rfl⟩ | ⟨rfl, rfl⟩
      · simp [yielded, hd, hu']
      · simp [yielded, hd, hu', undef]

theorem noDef_k0 {o : Oper} (h : k0 o.op = true) : noDef o = true := by
  obtain ⟨dst, op, type, pos, after, guard⟩ := o
  cases op <;> first | rfl | (simp [k0] at h)
theorem rd_none {W0 : World} {L0 L : Lay} {e : List AV} {s : Sto} {w : World} {a : Act} (hr : Rel W0 L0 L e s w a) (h : s.get 0 = some []) : L0.rd = none := by
  have h1 : L.hid = [] := (hr.objs 0 [] h).1 rfl
  obtain ⟨vs, h2, _⟩ := hr.hid
  rw [h1] at h2
  exact hr.rd.resolve_right fun hn => hn (List.append_eq_nil_iff.1 h2.symm).2
/-- A call of a loop's yield, that ends as K says. -/
def pyld (P : Program) (g : Nat) (ps : List Nat) (as bd : Code) (args : List AV) (K : AV → List AV → Sto → Prop) (Q : Exit → List AV → Sto → Prop) (e : List AV) (s : Sto) : Prop :=
  ∀ (dst : Option Nat) (type : Nat) (pos : String) (after : Array Edge) (guard : Option (Nat × Bool)) (f : Operand) (as' : Array Operand) (ts : Array Nat) W0 L0 L w a, aval e f = .yld g ps as bd → as'.toList.map (aval e) = args → Rel W0 L0 L e s w a →
    (⟨dst, .call ⟨.value f, as', ts⟩, type, pos, after, guard⟩ : Oper).wpIn (FW L0.ro) 0 P a w (fun a' w' => ∃ L e s r, Rel W0 L0 L (eset e dst r) s w' a' ∧ K r e s) (lift W0 L0 Q)
structure CT.ok (P : Program) (C : CT) : Prop where
  f : C.okf P
  y : ∀ g ps as bd args K Q e s, C.y g ps as bd args K Q e s → pyld P g ps as bd args K Q e s
theorem CT.ok.cut {P : Program} {C : CT} (h : C.ok P) : C.cut.okf P := h.f
theorem ok_of_f {P : Program} {C : CT} (h : C.okf P) (hy : C.noY) : C.ok P := ⟨h, fun _ _ _ _ _ _ _ _ _ k => absurd k (hy _ _ _ _ _ _ _ _ _)⟩
theorem pop_soundIn {P : Program} {C : CT} {tb : Nat} (hC : C.ok P) {W0 : World} {L0 L : Lay} {e : List AV} {s : Sto} {w : World} {a : Act} {K : List AV → Sto → Prop} {Q : Exit → List AV → Sto → Prop} (o : Oper) (h : pop P C tb o K Q e s) (hr : Rel W0 L0 L e s w a) : o.wpIn (FW L0.ro) 0 P a w (After W0 L0 K) (lift W0 L0 Q) := by
  by_cases hv : ∃ f args ts, o.op = .call ⟨.value f, args, ts⟩ ∧ (aval e f).isYld = true
  · obtain ⟨f, args, ts, h1, h2⟩ := hv
    obtain ⟨dst, op, type, pos, after, guard⟩ := o
    simp only at h1
    subst h1
    have h : pcallv P C (aval e f) (args.toList.map (aval e)) (fun r e s => K (eset e dst r) s) Q e s := h
    cases hx : aval e f with
    | yld g ps as bd =>
      rw [hx] at h
      have h : C.y g ps as bd (args.toList.map (aval e)) (fun r e s => K (eset e dst r) s) Q e s := h
      exact Oper.wpIn_mono (fun a w ⟨L, e, s, r, h1, h2⟩ => ⟨L, _, s, h1, h2⟩) (hC.y _ _ _ _ _ _ _ _ _ h dst type pos after guard f args ts W0 L0 L w a hx rfl hr)
    | _ => rw [hx] at h2; cases h2
  have hcut := pop_cut (fun f args ts ho => by
    cases hb : (aval e f).isYld with
    | false => rfl
    | true => exact absurd ⟨f, args, ts, ho, hb⟩ hv) h
  refine wpIn_of_wp ?_ (pop_sound hC.cut C.cut_noY o hcut hr)
  by_cases hn : noDef o = true
  · exact .inr hn
  · left
    obtain ⟨dst, op, type, pos, after, guard⟩ := o
    cases op with
    | defer c =>
      obtain ⟨cl, args, ts⟩ := c
      cases cl with
      | value f =>
        simp only [pop] at h
        split at h
        · rename_i hc; rw [h.1] at hc; exact rd_none hr hc
        · exact h.elim
      | builtin b => exact absurd h.1 (by simp [k0])
      | invoke x m => exact absurd h.1 (by simp [k0])
    | _ => exact absurd rfl hn
theorem pops_sound {P : Program} {C : CT} {tb : Nat} (hC : C.ok P) {W0 : World} {L0 : Lay} {ops : List Oper} {Q : Exit → List AV → Sto → Prop} : ∀ (l : List Oper) {L : Lay} {e : List AV} {s : Sto} {w : World} {a : Act}, pops P C tb ops l Q e s → Rel W0 L0 L e s w a →
    wpListIn (FW L0.ro) 0 P ops.toArray (lift W0 L0 Q) l a w
  | [], L, e, s, w, a, h, hr => ⟨L, e, s, hr, h⟩
  | o :: rest, L, e, s, w, a, h, hr => by
    unfold pops at h
    refine wpListIn_step fun K' hK' => ?_
    have hop : pop P C tb o (pops P C tb ops rest Q) Q e s → o.wpIn (FW L0.ro) 0 P a w K' (lift W0 L0 Q) := fun h =>
      Oper.wpIn_mono (fun a w ⟨L, e, s, h1, h2⟩ => hK' a w (pops_sound hC rest h2 h1)) (pop_soundIn hC o h hr)
    split at h
    · rename_i hg
      rw [if_pos (by simp [Region.wanted, hg])]
      exact hop h
    · rename_i j want hg
      split at h
      case h_2 => exact h.elim
      rename_i z hb
      have hy := gv_yielded hb hr.slots
      by_cases hw : z = some want
      · rw [if_pos (by simp [Region.wanted, hg, hy, hw])]
        split at h
        · rename_i hk
          rw [show (z == some want) = true by simp [hw], gif_true, gif_true] at h
          obtain ⟨v, g1, g2⟩ := pv_sound (ρ := a.eval) (L := L) (w := w) (X := []) (fun x => aval_rep hr.slots x) hr.objs o h.1
          refine wpIn_of_wp (.inr (noDef_k0 hk)) ?_
          unfold Oper.wp; rw [g2 w (fun _ => Keep.refl _ _ _)]
          exact hK' _ _ (pops_sound hC rest h.2 (hr.put o.dst g1))
        · exact hop (h.1 hw)
      · rw [if_neg (by simp [Region.wanted, hg, hy, hw])]
        split at h
        · rw [show (z == some want) = false by simpa using hw, gif_false, gif_false] at h
          exact ⟨fun _ _ => trivial, hK' _ _ (pops_sound hC rest h.2 (hr.put o.dst (x := .no) rfl))⟩
        · exact ⟨fun _ _ => trivial, hK' _ _ (pops_sound hC rest (h.2 hw) (hr.put o.dst (x := .no) rfl))⟩

/-! ### Regions whose order is open -/
/-- A panic's post does not hang on the slots that the region writes. -/
def Pd (ops : List Oper) (Q : Exit → List AV → Sto → Prop) : Prop := ∀ c e s d, (∃ o ∈ ops, o.dst = some d) → Q (.panic c) e s → Q (.panic c) (e.set d .any) s
def seqK (N : List AV → Sto → Prop) (Q : Exit → List AV → Sto → Prop) : Exit → List AV → Sto → Prop
  | .normal, e, s => N e s
  | x, e, s => Q x e s
def pstep (P : Program) (C : CT) (tb : Nat) (ops : List Oper) (o : Oper) (K : List AV → Sto → Prop) (Q : Exit → List AV → Sto → Prop) (e : List AV) (s : Sto) : Prop :=
  match o.guard with
  | none => pop P C tb o K Q e s
  | some (j, want) => match (gv ops e j).gd with
    | some z => (match k0 o.op with
     | true => gif (z == some want) (ps P s [] o.op (aval e)) True ∧ K (eset e o.dst (gif (z == some want) (pv P s o.op (aval e)) .no)) s
     | false => pguard (z = some want) (pop P C tb o K Q e s) (K (eset e o.dst .no) s))
    | none => False
def pany (P : Program) (C : CT) (tb : Nat) (ops : List Oper) : Sch → (Exit → List AV → Sto → Prop) → List AV → Sto → Prop
  | .done, Q, e, s => Q .normal e s
  | .one i r, Q, e, s => match ops[i]? with | some o => pstep P C tb ops o (pany P C tb ops r Q) Q e s | none => False
  | .alt a b, Q, e, s => pany P C tb ops a Q e s ∧ pany P C tb ops b Q e s

theorem Rel.unput {W0 : World} {L0 L : Lay} {e : List AV} {s : Sto} {w : World} {a : Act} {d : Nat} {v : Value} (hr : Rel W0 L0 L e s w (a.put (some d) v)) : Rel W0 L0 L (e.set d .any) s w a :=
  { hr with
    slots := by
      have h := hr.slots
      have hlen := h.length
      simp only [Act.put, Array.toList_setIfInBounds, List.length_set] at hlen
      refine AReps.of_get (by simpa using hlen) fun i x u h1 h2 => ?_
      by_cases hi : d = i
      · subst hi
        rw [List.getElem?_set_self'] at h1
        cases he : e[d]? with
        | none => simp [he] at h1
        | some y => simp [he] at h1; subst h1; trivial
      · rw [List.getElem?_set_ne hi] at h1
        obtain ⟨u', hu', hx⟩ := h.get i x h1
        simp only [Act.put, Array.toList_setIfInBounds, List.getElem?_set_ne hi] at hu'
        rw [h2] at hu'; cases hu'
        exact hx
    hid := hr.hid, rd := hr.rd, mks := hr.mks, mkb := hr.mkb, kept := hr.kept, rdk := hr.rdk, lke := hr.lke, lkb := hr.lkb, lki := hr.lki }

theorem pop_k0_imp {P : Program} {C : CT} {tb : Nat} {o : Oper} {K : List AV → Sto → Prop} {Q : Exit → List AV → Sto → Prop} {e : List AV} {s : Sto} (hk : k0 o.op = true) (h : pop P C tb o K Q e s) : ps P s [] o.op (aval e) ∧ K (eset e o.dst (pv P s o.op (aval e))) s := by
  obtain ⟨dst, op, type, pos, after, guard⟩ := o
  cases op with
  | call c =>
    obtain ⟨cl, args, ts⟩ := c
    cases cl with
    | builtin b => cases b <;> first | (simp only [k0, k0call, Bool.false_eq_true] at hk; done) | exact h.2
    | value f => simp [k0, k0call] at hk
    | invoke x m => simp [k0, k0call] at hk
  | _ => first | exact h.2 | (simp only [k0, Bool.false_eq_true] at hk; done)

/-- One operation that only reads: what it yields, and what holds behind it. -/
theorem k0_step {P : Program} {C : CT} {tb : Nat} {W0 : World} {L0 L : Lay} {ops : List Oper} {o : Oper} {K : List AV → Sto → Prop} {Q : Exit → List AV → Sto → Prop} {e : List AV} {s : Sto} {w : World} {a : Act} (hk : k0 o.op = true) (h : pstep P C tb ops o K Q e s) (hr : Rel W0 L0 L e s w a) :
    ∃ v e', YieldsIf P ops.toArray (fun w' => reads o.op = true → w' = w) o v a ∧ Rel W0 L0 L e' s w (a.put o.dst v) ∧ K e' s := by
  have hrun : ∀ (hs : ps P s [] o.op (aval e)), ∃ v, ARep L w (pv P s o.op (aval e)) v ∧ ∀ w', (reads o.op = true → w' = w) → (execOp a.eval o).run P w' = .ok (.value v) w' := fun hs => by
    obtain ⟨v, g1, g2⟩ := pv_sound (ρ := a.eval) (L := L) (w := w) (X := []) (fun x => aval_rep hr.slots x) hr.objs o hs
    exact ⟨v, g1, fun w' hw' => g2 w' fun hd => by rw [hw' hd]; exact Keep.refl _ _ _⟩
  unfold pstep at h
  split at h
  · rename_i hg
    obtain ⟨hs, hn⟩ := pop_k0_imp hk h
    obtain ⟨v, g1, g2⟩ := hrun hs
    exact ⟨v, _, .inl ⟨by simp [Region.wanted, hg], g2⟩, hr.put o.dst g1, hn⟩
  · rename_i j want hg
    split at h
    case h_2 => exact h.elim
    rename_i z hb
    have hy := gv_yielded hb hr.slots
    rw [hk] at h
    simp only at h
    by_cases hw : z = some want
    · rw [show (z == some want) = true by simp [hw], gif_true, gif_true] at h
      obtain ⟨v, g1, g2⟩ := hrun h.1
      exact ⟨v, _, .inl ⟨by simp [Region.wanted, hg, hy, hw], g2⟩, hr.put o.dst g1, h.2⟩
    · rw [show (z == some want) = false by simpa using hw, gif_false, gif_false] at h
      exact ⟨undef, _, .inr ⟨by simp [Region.wanted, hg, hy, hw], rfl⟩, hr.put o.dst (x := .no) rfl, h.2⟩

theorem pstep_sound {P : Program} {C : CT} {tb : Nat} (hC : C.ok P) {W0 : World} {L0 L : Lay} {ops : List Oper} {i : Nat} {o : Oper} {K : List AV → Sto → Prop} {Q : Exit → List AV → Sto → Prop} {e : List AV} {s : Sto} {w : World} {a : Act} (hi : ops[i]? = some o) (h : pstep P C tb ops o K Q e s) (hr : Rel W0 L0 L e s w a) :
    wpOpIn (FW L0.ro) 0 P ops.toArray (lift W0 L0 Q) i (fun a' w' => (k0At ops.toArray i = true → w' = w) ∧ After W0 L0 K a' w') a w := by
  unfold wpOpIn
  simp only [List.getElem?_toArray, hi]
  cases hk : k0 o.op with
  | true =>
    obtain ⟨v, e', hy, hr', hn⟩ := k0_step hk h hr
    rcases hy with ⟨hw, hv⟩ | ⟨hw, rfl⟩
    · simp only [hw, if_true]
      refine wpIn_of_wp (.inr (noDef_k0 hk)) ?_
      unfold Oper.wp; rw [hv w (fun _ => rfl)]
      exact ⟨fun _ => rfl, L, e', s, hr', hn⟩
    · simp only [hw, Bool.false_eq_true, if_false]
      exact ⟨fun _ _ => trivial, fun _ => trivial, L, e', s, hr', hn⟩
  | false =>
    have hkA : k0At ops.toArray i = false := by simp [k0At, hi, hk]
    simp only [hkA, Bool.false_eq_true, false_implies, true_and]
    unfold pstep at h
    split at h
    · rename_i hg
      rw [if_pos (by simp [Region.wanted, hg])]
      exact pop_soundIn hC o h hr
    · rename_i j want hg
      split at h
      case h_2 => exact h.elim
      rename_i z hb
      have hy := gv_yielded hb hr.slots
      rw [hk] at h
      by_cases hw : z = some want
      · rw [if_pos (by simp [Region.wanted, hg, hy, hw])]
        exact pop_soundIn hC o (h.1 hw) hr
      · rw [if_neg (by simp [Region.wanted, hg, hy, hw])]
        exact ⟨fun _ _ => trivial, L, _, s, hr.put o.dst (x := .no) rfl, h.2 hw⟩

theorem pd_lift {W0 : World} {L0 : Lay} {ops : List Oper} {Q : Exit → List AV → Sto → Prop} (hQ : Pd ops Q) {o : Oper} (ho : o ∈ ops) {v : Value} (c : List PanicEntry) (a : Act) (w : World) (h : lift W0 L0 Q (.panic c) (a.put o.dst v) w) : lift W0 L0 Q (.panic c) a w := by
  obtain ⟨L, e, s, h1, h2⟩ := h
  cases hd : o.dst with
  | none => rw [hd] at h1; exact ⟨L, e, s, h1, h2⟩
  | some d => rw [hd] at h1; exact ⟨L, _, s, h1.unput, hQ c e s d ⟨o, ho, hd⟩ h2⟩

mutual
theorem any_of_pany {P : Program} {C : CT} {tb : Nat} (hC : C.ok P) {W0 : World} {L0 : Lay} {ops : List Oper} {Q : Exit → List AV → Sto → Prop} (hs : Region.noSelect ops.toArray = true) (hd : ops.all noDef = true) (hQ : Pd ops Q) : ∀ (t : Sch) (listed : Array Bool) (fuel : Nat) {L : Lay} {e : List AV} {s : Sto} {w : World} {a : Act},
    t.depth ≤ fuel → ∀ m, RM ops.length m listed → schOk ops ops.length t m = true → pany P C tb ops t Q e s → Rel W0 L0 L e s w a → wpAnyG L0.ro P .any ops.toArray (lift W0 L0 Q) (k0At ops.toArray) fuel listed a w
  | .done, listed, fuel, L, e, s, w, a, _, m, hm, ho, h, hr => by
    have hrd : Region.ready .any ops.toArray listed = [] := by rw [← rdysN_eq hm]; simpa [schOk] using ho
    have hq : lift W0 L0 Q .normal a w := ⟨L, e, s, hr, h⟩
    cases fuel with
    | zero => exact ⟨hrd, hq⟩
    | succ n => exact ⟨fun _ => hq, by rw [hrd]; simp⟩
  | .one i r, listed, 0, L, e, s, w, a, hf, _, _, _, _, _ => by simp [Sch.depth] at hf
  | .one i r, listed, fuel + 1, L, e, s, w, a, hf, m, hm, ho, h, hr => by
    have hf' : r.depth ≤ fuel := by simpa [Sch.depth] using hf
    simp only [schOk, Bool.and_eq_true, Bool.or_eq_true] at ho
    obtain ⟨hor, hrest⟩ := ho
    unfold pany at h
    split at h
    case h_2 => exact h.elim
    rename_i o hi
    rcases hor with htake | honly
    · obtain ⟨hk, hrd, D, hwt, hall⟩ := takeN_spec hm hi htake
      obtain ⟨v, e', hy, hr', hn⟩ := k0_step hk h hr
      refine wpAnyG_first (oi := o) (v := v) (ld := reads o.op) (by simpa using hi) (Region.noSelect_spec hs) (fun j o ho => List.all_eq_true.1 hd o (List.mem_of_getElem? (by simpa using ho))) (pd_lift hQ (List.mem_of_getElem? hi)) (by simp [k0At, hi, hk]) D (fun j hj => ?_) fuel listed a w (fun j hj => (hwt j hj).1) (fun j oj hoj hji hun hjD => ?_) hrd hy (any_of_pany hC hs hd hQ r _ fuel hf' _ (hm.set (List.getElem?_eq_some_iff.1 hi).1) hrest hn hr')
      · obtain ⟨oj, hoj, ed, hed, hb⟩ := (hwt j hj).2
        exact ⟨oj, by simpa using hoj, ed, hed, hb.1, hb.2⟩
      · have hoj' : ops[j]? = some oj := by simpa using hoj
        have := hall j oj hoj' hji hun hjD
        exact ⟨this.1, fun hl => by simp [k0At, hoj', this.2 hl]⟩
    · have hrd : Region.ready .any ops.toArray listed = [i] := by rw [← rdysN_eq hm]; simpa using honly
      refine ⟨fun h0 => (by rw [hrd] at h0; cases h0), fun j hj => ?_⟩
      rw [hrd] at hj
      obtain rfl : j = i := by simpa using hj
      exact wpOpIn_mono (fun a' w' ⟨h1, L', e', s', h2, h3⟩ => ⟨h1, any_of_pany hC hs hd hQ r _ fuel hf' _ (hm.set (List.getElem?_eq_some_iff.1 hi).1) hrest h3 h2⟩) (pstep_sound hC hi h hr)
  | .alt a b, listed, fuel, L, e, s, w, ac, hf, m, hm, ho, h, hr => by
    simp only [schOk, Bool.and_eq_true, beq_iff_eq] at ho
    obtain ⟨⟨hrd, h1⟩, h2⟩ := ho
    rw [rdysN_eq hm] at hrd
    have hfa : a.depth ≤ fuel := Nat.le_trans (Nat.le_max_left _ _) hf
    have hfb : b.depth ≤ fuel := Nat.le_trans (Nat.le_max_right _ _) hf
    have ha := subs_of_pany hC hs hd hQ a listed fuel hfa m hm h1 h.1 hr
    have hb := subs_of_pany hC hs hd hQ b listed fuel hfb m hm h2 h.2 hr
    obtain ⟨n, rfl, hane, ha⟩ := ha
    obtain ⟨n', hn', _, hb⟩ := hb
    obtain rfl : n = n' := by omega
    refine ⟨fun h0 => ?_, fun i hi => ?_⟩
    · rw [hrd] at h0
      exact absurd (List.append_eq_nil_iff.1 h0).1 hane
    · rw [hrd, List.mem_append] at hi
      exact hi.elim (ha i) (hb i)
theorem subs_of_pany {P : Program} {C : CT} {tb : Nat} (hC : C.ok P) {W0 : World} {L0 : Lay} {ops : List Oper} {Q : Exit → List AV → Sto → Prop} (hs : Region.noSelect ops.toArray = true) (hd : ops.all noDef = true) (hQ : Pd ops Q) : ∀ (t : Sch) (listed : Array Bool) (fuel : Nat) {L : Lay} {e : List AV} {s : Sto} {w : World} {a : Act},
    t.depth ≤ fuel → ∀ m, RM ops.length m listed → schSubs ops ops.length t m = true → pany P C tb ops t Q e s → Rel W0 L0 L e s w a →
    ∃ n, fuel = n + 1 ∧ t.heads ≠ [] ∧ ∀ i ∈ t.heads, wpOpIn (FW L0.ro) 0 P ops.toArray (lift W0 L0 Q) i (fun a' w' => (k0At ops.toArray i = true → w' = w) ∧ wpAnyG L0.ro P .any ops.toArray (lift W0 L0 Q) (k0At ops.toArray) n (listed.setIfInBounds i true) a' w') a w
  | .done, _, _, _, _, _, _, _, _, _, _, ho, _, _ => by simp [schSubs] at ho
  | .one i r, listed, 0, _, _, _, _, _, hf, _, _, _, _, _ => by simp [Sch.depth] at hf
  | .one i r, listed, fuel + 1, L, e, s, w, a, hf, m, hm, ho, h, hr => by
    have hf' : r.depth ≤ fuel := by simpa [Sch.depth] using hf
    simp only [schSubs, Bool.and_eq_true, Nat.blt_eq] at ho
    unfold pany at h
    split at h
    case h_2 => exact h.elim
    rename_i o hi
    refine ⟨fuel, rfl, by simp [Sch.heads], fun j hj => ?_⟩
    obtain rfl : j = i := by simpa [Sch.heads] using hj
    exact wpOpIn_mono (fun a' w' ⟨h1, L', e', s', h2, h3⟩ => ⟨h1, any_of_pany hC hs hd hQ r _ fuel hf' _ (hm.set ho.1) ho.2 h3 h2⟩) (pstep_sound hC hi h hr)
  | .alt a b, listed, fuel, L, e, s, w, ac, hf, m, hm, ho, h, hr => by
    simp only [schSubs, Bool.and_eq_true] at ho
    have hfa : a.depth ≤ fuel := Nat.le_trans (Nat.le_max_left _ _) hf
    have hfb : b.depth ≤ fuel := Nat.le_trans (Nat.le_max_right _ _) hf
    obtain ⟨n, rfl, hane, ha⟩ := subs_of_pany hC hs hd hQ a listed fuel hfa m hm ho.1 h.1 hr
    obtain ⟨n', hn', _, hb⟩ := subs_of_pany hC hs hd hQ b listed _ hfb m hm ho.2 h.2 hr
    obtain rfl : n = n' := by omega
    refine ⟨n, rfl, fun h0 => hane (List.append_eq_nil_iff.1 h0).1, fun i hi => ?_⟩
    simp only [Sch.heads, List.mem_append] at hi
    exact hi.elim (ha i) (hb i)
end

/-! ### Code -/
def blkK (id : Nat) (Q : Exit → List AV → Sto → Prop) : Exit → List AV → Sto → Prop
  | .exit i, e, s => if i = id then Q .normal e s else Q (.exit i) e s
  | x, e, s => Q x e s

def scK (Q : Exit → List AV → Sto → Prop) : Exit → List AV → Sto → Prop
  | .goto _, _, _ => False
  | x, e, s => Q x e s

def ploop (P : Program) (c : Code) (Q : Exit → List AV → Sto → Prop) (e : List AV) (s : Sto) : Prop := psem P (.loop c) Q e s
/-- The orders of a code's regions are orders. -/
def okO (O : Nat → Sch) : Code → Bool
  | .region id ops true => (Region.noSelect ops && ops.toList.all noDef) && schOk ops.toList ops.toList.length (O id) 0 && decide ((O id).depth ≤ ops.size)
  | .seq x y => okO O x && okO O y
  | .cond _ x y => okO O x && okO O y
  | .block _ c => okO O c
  | .loop c => okO O c
  | .scope c => okO O c
  | .rangeFunc _ _ as bd => okO O as && okO O bd
  | _ => true

def pwp (P : Program) (C : CT) (O : Nat → Sch) (tb : Nat) : Code → (Exit → List AV → Sto → Prop) → List AV → Sto → Prop
  | .skip, Q, e, s => Q .normal e s
  | .label _, Q, e, s => Q .normal e s
  | .region _ ops false, Q, e, s => pops P C tb ops.toList ops.toList Q e s
  | .region id ops true, Q, e, s => Pd ops.toList Q ∧ pany P C tb ops.toList (O id) Q e s
  | .seq x y, Q, e, s => pwp P C O tb x (seqK (pwp P C O tb y Q) Q) e s
  | .cond c x y, Q, e, s => (aval e c).isBool ∧ ((aval e c).bool = true → pwp P C O tb x Q e s) ∧ ((aval e c).bool = false → pwp P C O tb y Q e s)
  | .block id c, Q, e, s => pwp P C O tb c (blkK id Q) e s
  | .loop c, Q, e, s => ploop P c Q e s
  | .exit id, Q, e, s => Q (.exit id) e s
  | .goto l, Q, e, s => Q (.goto l) e s
  | .ret, Q, e, s => Q .ret e s
  | .scope c, Q, e, s => pwp P C O tb c (scK Q) e s
  | c, Q, e, s => psem P c Q e s

theorem lift_seq {W0 : World} {L0 : Lay} {N : List AV → Sto → Prop} {Q : Exit → List AV → Sto → Prop} {next : Act → World → Prop} (h : ∀ L e s a w, Rel W0 L0 L e s w a → N e s → next a w) :
    ∀ x a w, lift W0 L0 (seqK N Q) x a w → Exit.then next (lift W0 L0 Q) x a w := by
  rintro x a w ⟨L, e, s, h1, h2⟩
  cases x with
  | normal => exact h L e s a w h1 h2
  | _ => exact ⟨L, e, s, h1, h2⟩

theorem pwp_sound {P : Program} {C : CT} {O : Nat → Sch} {tb : Nat} (hC : C.ok P) (hm : P.follows .mixedOrders = true) : ∀ (c : Code) {Q : Exit → List AV → Sto → Prop} {e : List AV} {s : Sto}, okO O c = true → pwp P C O tb c Q e s → psem P c Q e s
  | .skip, Q, e, s, _, h => fun W0 L0 L w a hr => wpIn_skip ⟨L, e, s, hr, h⟩
  | .label l, Q, e, s, _, h => fun W0 L0 L w a hr => wpIn_label ⟨L, e, s, hr, h⟩
  | .region id ops false, Q, e, s, _, h => fun W0 L0 L w a hr => wpIn_region_list (by have := pops_sound hC (W0 := W0) (L0 := L0) ops.toList h hr; simpa using this)
  | .region id ops true, Q, e, s, ho, h => fun W0 L0 L w a hr => by
    simp only [okO, Bool.and_eq_true, decide_eq_true_eq] at ho
    refine wpIn_region_any hm (wpAny_of_G (qt := k0At ops) _ _ _ _ ?_)
    have := any_of_pany hC (W0 := W0) (L0 := L0) (ops := ops.toList) (by simpa using ho.1.1.1) ho.1.1.2 h.1 (O id) (Array.replicate ops.size false) ops.size ho.2 0 (by have := RM.zero (n := ops.toList.length); simpa using this) ho.1.2 h.2 (hr.grow (below_drew w))
    simpa using this
  | .seq x y, Q, e, s, ho, h => fun W0 L0 L w a hr => by
    simp only [okO, Bool.and_eq_true] at ho
    exact wpIn_seq (Code.wpIn_mono (lift_seq fun L e s a w h1 h2 => pwp_sound hC hm y ho.2 h2 W0 L0 L w a h1) (pwp_sound hC hm x ho.1 h W0 L0 L w a hr))
  | .cond c x y, Q, e, s, ho, h => fun W0 L0 L w a hr => by
    simp only [okO, Bool.and_eq_true] at ho
    obtain ⟨hb, h1, h2⟩ := h
    have hc := AV.isBool_rep hb (aval_rep hr.slots c)
    cases ht : (aval e c).bool with
    | true => rw [ht] at hc; exact wpIn_cond_true hc (pwp_sound hC hm x ho.1 (h1 ht) W0 L0 L w a hr)
    | false => rw [ht] at hc; exact wpIn_cond_false hc (pwp_sound hC hm y ho.2 (h2 ht) W0 L0 L w a hr)
  | .block id c, Q, e, s, ho, h => fun W0 L0 L w a hr => wpIn_block (Code.wpIn_mono (fun x a w ⟨L, e, s, h1, h2⟩ => by
      cases x with
      | exit i =>
        simp only [blkK] at h2
        simp only [Exit.inBlock]
        split at h2
        · rename_i hi; rw [if_pos hi]; exact ⟨L, e, s, h1, h2⟩
        · rename_i hi; rw [if_neg hi]; exact ⟨L, e, s, h1, h2⟩
      | _ => exact ⟨L, e, s, h1, h2⟩) (pwp_sound hC hm c (by simpa [okO] using ho) h W0 L0 L w a hr))
  | .loop c, Q, e, s, _, h => h
  | .exit id, Q, e, s, _, h => fun W0 L0 L w a hr => wpIn_exit ⟨L, e, s, hr, h⟩
  | .goto l, Q, e, s, _, h => fun W0 L0 L w a hr => wpIn_goto ⟨L, e, s, hr, h⟩
  | .ret, Q, e, s, _, h => fun W0 L0 L w a hr => wpIn_ret ⟨L, e, s, hr, h⟩
  | .rangeFunc f ps as b, Q, e, s, _, h => h
  | .scope c, Q, e, s, ho, h => fun W0 L0 L w a hr => wpIn_scope_straight (Code.wpIn_mono (fun x a w ⟨L, e, s, h1, h2⟩ => by
      cases x with
      | goto l => exact h2.elim
      | _ => exact ⟨L, e, s, h1, h2⟩) (pwp_sound hC hm c (by simpa [okO] using ho) h W0 L0 L w a hr))
  | .refuse y, Q, e, s, _, h => h

theorem psem_mono {P : Program} {c : Code} {Q Q' : Exit → List AV → Sto → Prop} {e : List AV} {s : Sto} (h : psem P c Q e s) (hq : ∀ x e s, Q x e s → Q' x e s) : psem P c Q' e s :=
  fun W0 L0 L w a hr => Code.wpIn_mono (fun x a w ⟨L, e, s, h1, h2⟩ => ⟨L, e, s, h1, hq x e s h2⟩) (h W0 L0 L w a hr)

/-! ### Loops -/
/-- One state weaker than another: slots forgotten, variables dropped. -/
def Weaker (e : List AV) (s : Sto) (e' : List AV) (s' : Sto) : Prop := ∀ W0 L0 L w a, Rel W0 L0 L e s w a → ∃ L', Rel W0 L0 L' e' s' w a

theorem Weaker.of_wk {e e' : List AV} {s s' : Sto} (h : Wk e e') (hs : ∀ g c, s'.get g = some c → ∃ c0, s.get g = some c0 ∧ Wk c0 c) : Weaker e s e' s' := fun _ _ L _ _ hr => ⟨L, hr.weaken h hs⟩
theorem Weaker.of_wk' {e e' : List AV} {s : Sto} (h : Wk e e') : Weaker e s e' s := Weaker.of_wk h fun g c hc => ⟨c, hc, Wk.refl c⟩

theorem ploop_intro {P : Program} {C : CT} {O : Nat → Sch} {tb : Nat} (hC : C.ok P) (hm : P.follows .mixedOrders = true) {c : Code} (ho : okO O c = true) {Q : Exit → List AV → Sto → Prop} {e : List AV} {s : Sto} {σ : Type} (E : σ → List AV) (S : σ → Sto) (I : σ → Prop) (μ : σ → Nat) (x0 : σ) (h0 : I x0) (hw : Weaker e s (E x0) (S x0))
    (round : ∀ x, I x → pwp P C O tb c (seqK (fun e s => ∃ y, I y ∧ μ y < μ x ∧ Weaker e s (E y) (S y)) Q) (E x) (S x)) : ploop P c Q e s := fun W0 L0 L w a hr => by
  obtain ⟨L1, hr1⟩ := hw W0 L0 L w a hr
  refine wpIn_loop_ghost (fun n a w => ∃ x, I x ∧ μ x = n ∧ ∃ L, Rel W0 L0 L (E x) (S x) w a) (μ x0) ⟨x0, h0, rfl, L1, hr1⟩ ?_
  rintro n a w ⟨x, hx, rfl, L, hr⟩
  refine Code.wpIn_mono (lift_seq fun L e s a w h1 ⟨y, hy, hlt, hwk⟩ => ?_) (pwp_sound hC hm c ho (round x hx) W0 L0 L w a hr)
  obtain ⟨L', hr'⟩ := hwk W0 L0 L w a h1
  exact ⟨μ y, hlt, y, hy, rfl, L', hr'⟩

end Go.E

namespace Go.E
open Go Go.RowKit

/-! ### What a function does, said of data alone -/
inductive End where
  | ret (d : D)
  | pan (c : List PanicEntry)

/-- Function f, at data ds, ends as R says, and leaves all memory that was there as it was. -/
def PF (P : Program) (f : Nat) (ds : List D) (R : End → Prop) : Prop :=
  callable P f = true ∧ ∀ (F : Nat → Prop) (w : World) (vs : Array Value), DReps (look F w) ds vs.toList →
    Calls P f vs w (fun en w' => Below w.heap.size w w' ∧ match en with
      | .returned v => ∃ d, R (.ret d) ∧ DRep (look (fun b => F b ∨ w.heap.size ≤ b) w') d v
      | .panicked c => R (.pan c)
      | .outgrown => False)

theorem PF.mono {P : Program} {f : Nat} {ds : List D} {R R' : End → Prop} (h : PF P f ds R) (hr : ∀ x, R x → R' x) : PF P f ds R' :=
  ⟨h.1, fun F w vs hd => (h.2 F w vs hd).mono fun en w' ⟨h1, h2⟩ => ⟨h1, by
    cases en with
    | returned v => obtain ⟨d, h3, h4⟩ := h2; exact ⟨d, hr _ h3, h4⟩
    | panicked c => exact hr _ h2
    | outgrown => exact h2⟩⟩

theorem reps_of_d {L : Lay} {w : World} : ∀ {ds : List D} {us : List Value}, AReps L w (ds.map .d) us → DReps (L.mem w) ds us
  | [], _, h => h
  | _ :: _, _, ⟨u, ut, e, h1, h2⟩ => ⟨u, ut, e, h1, reps_of_d h2⟩

/-- At data. -/
theorem pcall_d {P : Program} {f : Nat} {ds : List D} {R : End → Prop} {K : AV → List AV → Sto → Prop} {Q : Exit → List AV → Sto → Prop} {e : List AV} {s : Sto} (h : PF P f ds R)
    (hK : ∀ d, R (.ret d) → K (.d d) e s) (hQ : ∀ c, R (.pan c) → Q (.panic c) e s) : pcall P f (ds.map .d) K Q e s := by
  refine ⟨h.1, fun W0 L0 L w a vs hr hv => (h.2 (fun b => L.own b = none) w vs (reps_of_d hv)).mono fun en w' ⟨hb, hen⟩ => ?_⟩
  have hr' := hr.grow hb
  cases en with
  | returned v =>
    obtain ⟨d, h1, h2⟩ := hen
    refine ⟨L, e, s, .d d, hr', DRep.mono (look_le fun b hb' hlt => ⟨?_, rfl⟩) d v h2, hK d h1⟩
    rcases hb' with h | h
    · exact h
    · cases ho : L.own b with
      | none => rfl
      | some g => have := hr.own_lt b g ho; omega
  | panicked c => exact ⟨L, e, s, hr', hQ c hen⟩
  | outgrown => exact hen

mutual
/-- Data without memory. -/
def D.flat : D → Bool
  | .v _ => true
  | .agg cs => D.flats cs
  | .tup cs => D.flats cs
  | .iface _ x => x.flat
  | _ => false
def D.flats : List D → Bool
  | [] => true
  | d :: ds => d.flat && D.flats ds
end
mutual
theorem D.flat_rep {m m' : Mem} : ∀ {d : D} {u : Value}, d.flat = true → DRep m d u → DRep m' d u
  | .v _, _, _, k => k
  | .agg _, _, h, ⟨us, e, k⟩ => ⟨us, e, D.flats_rep (by simpa [D.flat] using h) k⟩
  | .tup _, _, h, ⟨us, e, k⟩ => ⟨us, e, D.flats_rep (by simpa [D.flat] using h) k⟩
  | .iface _ _, _, h, ⟨y, e, k⟩ => ⟨y, e, D.flat_rep (by simpa [D.flat] using h) k⟩
  | .sl _ _, _, h, _ => by simp [D.flat] at h
  | .ptr _ _, _, h, _ => by simp [D.flat] at h
  | .clo _ _ _, _, h, _ => by simp [D.flat] at h
theorem D.flats_rep {m m' : Mem} : ∀ {ds : List D} {us : List Value}, D.flats ds = true → DReps m ds us → DReps m' ds us
  | [], _, _, k => k
  | d :: ds, _, h, ⟨u, ut, e, k1, k2⟩ => by
    simp only [D.flats, Bool.and_eq_true] at h
    exact ⟨u, ut, e, D.flat_rep h.1 k1, D.flats_rep h.2 k2⟩
end

theorem ownRow_read {g e s : Nat} {L : Lay} {w : World} {rows : List (List D)} {u : Value} {F : Nat → Prop} (h : OwnRow L w g e s rows u) (hF : ∀ b, L.own b = none ∨ L.own b = some g → F b) : DRep (look F w) (.sl s rows) u := by
  obtain ⟨xs, h1, h2, h3, h4, h5⟩ := h
  have hle : (L.mem w).le (look F w) := look_le fun b hb _ => ⟨hF b (.inl hb), rfl⟩
  rcases h1.2 with ⟨e1, e2⟩ | ⟨b, cap, cur, e1, _, e3, e4, e5, e6, e7⟩
  · exact ⟨none, 0, 0, e1, e2.symm, Nat.le_refl _, .inl ⟨rfl, rfl, rfl⟩⟩
  · refine ⟨_, _, _, e1, rfl, e4, .inr ⟨b, 0, rfl, DRows.of_get fun i r hi => ?_⟩⟩
    have hrl := h3 r (List.mem_of_getElem? hi)
    refine ⟨hrl, DCells.of_get fun j d hd => ?_⟩
    have hj : j < s := by rw [← hrl]; exact (List.getElem?_eq_some_iff.1 hd).1
    have hf := flat_get h3 i j r hi hj
    rw [hd] at hf
    obtain ⟨x, hx, hdx⟩ := h5.get _ d hf
    refine ⟨x, look_some.2 ⟨hF b (.inr (h2 b (by rw [e1]; rfl))), ?_⟩, h4 x (List.mem_of_getElem? hx), DRep.mono hle _ _ hdx⟩
    have := h1.cells (g := b) (by rw [e1]; rfl) (i * s + j) x hx
    rw [add_none] at this
    simpa using this

mutual
/-- A value as data to be read. -/
def AV.rd : AV → Option D
  | .d x => some x
  | .own _ _ s rows => some (.sl s rows)
  | .agg xs => (AV.rds xs).map .agg
  | _ => none
def AV.rds : List AV → Option (List D)
  | [] => some []
  | x :: xs => match x.rd, AV.rds xs with | some z, some ds => some (z :: ds) | _, _ => none
end
mutual
theorem AV.rd_rep {L : Lay} {w : World} : ∀ {x : AV} {d : D} {u : Value}, AV.rd x = some d → ARep L w x u → DRep (look (fun _ => True) w) d u
  | .d x, z, u, h, k => by
    simp only [AV.rd, Option.some.injEq] at h
    subst h; exact DRep.mono (look_le fun b _ _ => ⟨trivial, rfl⟩) _ _ k
  | .own _ _ s rows, z, u, h, k => by
    simp only [AV.rd, Option.some.injEq] at h
    subst h; exact ownRow_read k.2 fun _ _ => trivial
  | .agg xs, z, u, h, ⟨us, e, k⟩ => by
    simp only [AV.rd, Option.map_eq_some_iff] at h
    obtain ⟨ds, h1, rfl⟩ := h
    exact ⟨us, e, AV.rds_rep h1 k⟩
  | .any, _, _, h, _ | .eref .., _, _, h, _ | .ref .., _, _, h, _ | .tup _, _, _, h, _ | .clo .., _, _, h, _ | .iface .., _, _, h, _ | .yld .., _, _, h, _ | .mp _, _, _, h, _ => by simp [AV.rd] at h
theorem AV.rds_rep {L : Lay} {w : World} : ∀ {xs : List AV} {ds : List D} {us : List Value}, AV.rds xs = some ds → AReps L w xs us → DReps (look (fun _ => True) w) ds us
  | [], ds, us, h, k => by simp [AV.rds] at h; subst h; exact k
  | x :: xs, ds, us, h, ⟨u, ut, e, k1, k2⟩ => by
    simp only [AV.rds] at h
    split at h
    · rename_i d ds' h1 h2
      simp at h; subst h
      exact ⟨u, ut, e, AV.rd_rep h1 k1, AV.rds_rep h2 k2⟩
    · cases h
end

/-- At rows of the call's own too, where the result leads to no memory. -/
theorem pcall_r {P : Program} {f : Nat} {args : List AV} {ds : List D} {R : End → Prop} {K : AV → List AV → Sto → Prop} {Q : Exit → List AV → Sto → Prop} {e : List AV} {s : Sto} (h : PF P f ds R) (ha : AV.rds args = some ds)
    (hK : ∀ d, R (.ret d) → d.flat = true ∧ K (.d d) e s) (hQ : ∀ c, R (.pan c) → Q (.panic c) e s) : pcall P f args K Q e s := by
  refine ⟨h.1, fun W0 L0 L w a vs hr hv => (h.2 (fun _ => True) w vs (AV.rds_rep ha hv)).mono fun en w' ⟨hb, hen⟩ => ?_⟩
  have hr' := hr.grow hb
  cases en with
  | returned v =>
    obtain ⟨d, h1, h2⟩ := hen
    exact ⟨L, e, s, .d d, hr', D.flat_rep (hK d h1).1 h2, (hK d h1).2⟩
  | panicked c => exact ⟨L, e, s, hr', hQ c hen⟩
  | outgrown => exact hen

/-! ### From a function's text to what it does -/
def resV (P : Program) (e : List AV) (s : Sto) : ResultVar → AV
  | .tmp t => e.getD t .any
  | .cell x t => loadV P s t (e.getD x .any)
def resS (P : Program) (e : List AV) (s : Sto) : ResultVar → Prop
  | .tmp _ => True
  | .cell x t => loadS P s [] t (e.getD x .any)
def outL (f : AV → Option D) : List AV → Option (List D)
  | [] => some []
  | x :: xs => match f x, outL f xs with | some z, some ds => some (z :: ds) | _, _ => none
/-- A value that is handed back, as data; of so much depth at the most. -/
def AV.outF (s : Sto) : Nat → AV → Option D
  | _, .d x => some x
  | _, .own g _ sz rows => if g = 0 then none else some (.sl sz rows)
  | n + 1, .ref g off => if g = 0 then none else match s.get g with
    | some c => if c.all AV.one = true then (outL (AV.outF s n) c).map (fun ds => .ptr ds off) else none
    | none => none
  | n + 1, .agg xs => (outL (AV.outF s n) xs).map .agg
  | n + 1, .iface t x => (AV.outF s n x).map (.iface t)
  | n + 1, .clo f x y => match outL (AV.outF s n) x, outL (AV.outF s n) y with | some a, some b => some (.clo f a b) | _, _ => none
  | _, _ => none
abbrev AV.outs (s : Sto) (xs : List AV) : Option (List D) := outL (AV.outF s 6) xs
def resAll (P : Program) (e : List AV) (s : Sto) : List ResultVar → Prop
  | [] => True
  | r :: rs => resS P e s r ∧ resAll P e s rs
def packD : List D → D
  | [d] => d
  | ds => .tup ds

def retK (P : Program) (rs : List ResultVar) (R : End → Prop) : Exit → List AV → Sto → Prop
  | .normal, e, s | .ret, e, s => s.get 0 = some [] ∧ resAll P e s rs ∧ ∃ ds, AV.outs s (rs.map (resV P e s)) = some ds ∧ R (.ret (packD ds))
  | .panic c, _, s => s.get 0 = some [] ∧ R (.pan c)
  | _, _, _ => False

theorem outL_rep {L : Lay} {w : World} {m : Mem} {f : AV → Option D} (hf : ∀ x d u, f x = some d → ARep L w x u → DRep m d u) : ∀ {xs : List AV} {ds : List D} {us : List Value}, outL f xs = some ds → AReps L w xs us → DReps m ds us
  | [], ds, us, h, k => by simp [outL] at h; subst h; exact k
  | x :: xs, ds, us, h, ⟨u, ut, e, k1, k2⟩ => by
    simp only [outL] at h
    split at h
    · rename_i d ds' h1 h2
      simp at h; subst h
      exact ⟨u, ut, e, hf _ _ _ h1 k1, outL_rep hf h2 k2⟩
    · cases h
theorem outF_rep {W0 : World} {L0 L : Lay} {e : List AV} {s : Sto} {w : World} {a : Act} {F : Nat → Prop} (hr : Rel W0 L0 L e s w a) (hnone : ∀ b, L.own b = none → F b) (hsome : ∀ b g, g ≠ 0 → L.own b = some g → F b) :
    ∀ (n : Nat) (x : AV) (d : D) (u : Value), AV.outF s n x = some d → ARep L w x u → DRep (look F w) d u
  | n, .d y, d, u, h, k => by
    simp [AV.outF] at h; subst h; exact DRep.mono (look_le fun b hb _ => ⟨hnone b hb, rfl⟩) _ _ k
  | n, .own g el sz rows, d, u, h, k => by
    have h : (if g = 0 then none else some (D.sl sz rows)) = some d := by cases n <;> exact h
    split at h
    · cases h
    · rename_i hg
      simp at h; subst h
      exact ownRow_read k.2 fun b hb => by
        rcases hb with h | h
        · exact hnone b h
        · exact hsome b g hg h
  | n + 1, .ref g off, d, u, h, k => by
    simp only [AV.outF] at h
    split at h
    · cases h
    · rename_i hg
      split at h
      · rename_i c hc
        split at h
        · rename_i hone
          obtain ⟨ds, h1, rfl⟩ := Option.map_eq_some_iff.1 h
          obtain ⟨vs0, e0, e3⟩ := (hr.objs g c hc).2 hg
          obtain ⟨cs, t, e1, e2, rfl⟩ := e0.cells k.2
          have hds := outL_rep (outF_rep hr hnone hsome n) h1 e3
          have hones := AV.ones_rep hone e3
          refine ⟨L.blk g, 0, by rw [show u = _ from k.1]; simp, DCells.of_get fun i d hd => ?_⟩
          obtain ⟨x, hx, hdx⟩ := hds.get i d hd
          refine ⟨x, look_some.2 ⟨hsome _ g hg e2, ?_⟩, hones x (List.mem_of_getElem? hx), hdx⟩
          simp only [World.cell?, e1]
          simpa using hx
        · cases h
      · cases h
  | n + 1, .agg xs, d, u, h, ⟨us, hu, k⟩ => by
    simp only [AV.outF] at h
    obtain ⟨ds, h1, rfl⟩ := Option.map_eq_some_iff.1 h
    exact ⟨us, hu, outL_rep (outF_rep hr hnone hsome n) h1 k⟩
  | n + 1, .iface t x, d, u, h, ⟨y, hu, k⟩ => by
    simp only [AV.outF] at h
    obtain ⟨d', h1, rfl⟩ := Option.map_eq_some_iff.1 h
    exact ⟨y, hu, outF_rep hr hnone hsome n x d' y h1 k⟩
  | 0, .any, _, _, h, _ => by simp [AV.outF] at h
  | 0, .eref _ _ _ _ _ _, _, _, h, _ => by simp [AV.outF] at h
  | 0, .ref _ _, _, _, h, _ => by simp [AV.outF] at h
  | 0, .tup _, _, _, h, _ => by simp [AV.outF] at h
  | 0, .agg _, _, _, h, _ => by simp [AV.outF] at h
  | 0, .clo _ _ _, _, _, h, _ => by simp [AV.outF] at h
  | 0, .iface _ _, _, _, h, _ => by simp [AV.outF] at h
  | 0, .yld _ _ _ _, _, _, h, _ => by simp [AV.outF] at h
  | 0, .mp _, _, _, h, _ => by simp [AV.outF] at h
  | n + 1, .mp _, _, _, h, _ => by simp [AV.outF] at h
  | n + 1, .yld _ _ _ _, _, _, h, _ => by simp [AV.outF] at h
  | n + 1, .any, _, _, h, _ => by simp [AV.outF] at h
  | n + 1, .eref _ _ _ _ _ _, _, _, h, _ => by simp [AV.outF] at h
  | n + 1, .tup _, _, _, h, _ => by simp [AV.outF] at h
  | n + 1, .clo f x y, d, u, h, ⟨xs, ys, hu, k1, k2⟩ => by
    simp only [AV.outF] at h
    split at h
    · rename_i ds1 ds2 h1 h2
      simp only [Option.some.injEq] at h
      subst h
      exact ⟨xs, ys, hu, outL_rep (outF_rep hr hnone hsome n) h1 k1, outL_rep (outF_rep hr hnone hsome n) h2 k2⟩
    · cases h
theorem outs_rep {W0 : World} {L0 L : Lay} {e : List AV} {s : Sto} {w : World} {a : Act} {F : Nat → Prop} (hr : Rel W0 L0 L e s w a) (hLF : ∀ b, b < W0.heap.size → F b → L0.own b = none) (hLN : ∀ b, b < W0.heap.size → ¬ F b → L0.own b = some 0)
    {xs : List AV} {ds : List D} {us : List Value} (h : AV.outs s xs = some ds) (k : AReps L w xs us) : DReps (look (fun b => F b ∨ W0.heap.size ≤ b) w) ds us := by
  have hnone : ∀ b, L.own b = none → F b ∨ W0.heap.size ≤ b := fun b hb => by
    by_cases hlt : b < W0.heap.size
    · by_cases hF : F b
      · exact .inl hF
      · have h0 := hLN b hlt hF
        have := (hr.old b hlt (.inr h0)).1
        rw [hb, h0] at this; cases this
    · exact .inr (by omega)
  have hsome : ∀ b g, g ≠ 0 → L.own b = some g → F b ∨ W0.heap.size ≤ b := fun b g hg hb => by
    by_cases hlt : b < W0.heap.size
    · have h0 : L0.own b = none ∨ L0.own b = some 0 := by
        by_cases hF : F b
        · exact .inl (hLF b hlt hF)
        · exact .inr (hLN b hlt hF)
      have := (hr.old b hlt h0).1
      rw [hb] at this
      rcases h0 with h | h <;> rw [h] at this <;> simp at this
      exact absurd this hg
    · omega
  exact outL_rep (outF_rep hr hnone hsome 6) h k

theorem results_run {P : Program} {W0 : World} {L0 L : Lay} {e : List AV} {s : Sto} {w : World} {a : Act} (hr : Rel W0 L0 L e s w a) (g : ResultVar → Sem Value) (hg1 : ∀ t, g (.tmp t) = pure (a.tmps.getD t undef)) (hg2 : ∀ x t, g (.cell x t) = do loadVar t (← asAddr (a.tmps.getD x undef))) : ∀ (rs : List ResultVar), resAll P e s rs →
    ∃ vs : List Value, (rs.mapM g).run P w = .ok vs w ∧ AReps L w (rs.map (resV P e s)) vs
  | [], _ => ⟨[], by simp, rfl⟩
  | .tmp t :: rs, h => by
    obtain ⟨vs, h1, h2⟩ := results_run hr g hg1 hg2 rs h.2
    exact ⟨_ :: vs, by simp only [List.mapM_cons, Sem.run_bind, hg1, Sem.run_pure, Result.andThen_ok, h1]; rfl, _, _, rfl, aval_rep hr.slots (.tmp t), h2⟩
  | .cell x t :: rs, h => by
    obtain ⟨vs, h1, h2⟩ := results_run hr g hg1 hg2 rs h.2
    have hx := aval_rep hr.slots (.tmp x)
    obtain ⟨v, g1, g2⟩ := yv_load (P := P) (X := []) (dst := none) (type := 0) (pos := "") (after := #[]) (guard := none) (S := s) (ρ := a.eval) (A := aval e) t (.tmp x) hx hr.objs h.1
    have hrun := g2 w (fun _ => Keep.refl _ _ _)
    simp only [execOp, Instr.loadAt, Sem.run_bind, Act.eval] at hrun
    refine ⟨v :: vs, ?_, v, vs, rfl, g1, h2⟩
    have hload : ((asAddr (a.tmps.getD x undef)).run P w).andThen (fun ad w1 => (loadVar t ad).run P w1) = .ok v w := by
      cases hu : a.tmps.getD x undef with
      | pointer o =>
        cases o with
        | none => simp [hu, Instr.sureAddr] at hrun
        | some ad =>
          simp only [hu, Instr.sureAddr, Sem.run_pure, Result.andThen_ok] at hrun
          simp only [asAddr, Sem.run_pure, Result.andThen_ok]
          cases hl : (loadVar t ad).run P w with
          | ok v' w' => simp [hl] at hrun; simp [hrun]
          | halt x w' => simp [hl] at hrun
      | _ => simp [hu, Instr.sureAddr] at hrun
    simp only [List.mapM_cons, Sem.run_bind, hg2, hload, Result.andThen_ok, h1, Sem.run_pure]

theorem rel_none {W0 : World} {L0 L : Lay} {e : List AV} {s : Sto} {w : World} {a : Act} (hr : Rel W0 L0 L e s w a) (h : s.get 0 = some []) : L.hid = [] ∧ strip a.defers = [] := by
  have h1 : L.hid = [] := (hr.objs 0 [] h).1 rfl
  obtain ⟨vs, h2, h3⟩ := hr.hid
  rw [h1] at h2
  have := (List.append_eq_nil_iff.1 h2.symm).1
  subst this
  exact ⟨h1, h3⟩

/-- What is read behind all, from the slots and the store. -/
def outK (P : Program) (rs : List ResultVar) (R : End → Prop) (e : List AV) (s : Sto) : Prop := resAll P e s rs ∧ ∃ ds, AV.outs s (rs.map (resV P e s)) = some ds ∧ R (.ret (packD ds))
noncomputable def lay0 (F : Nat → Prop) (w : World) : Lay := by
  classical
  exact { own := fun b => if b < w.heap.size then (if F b then none else some 0) else none, blk := fun _ => 0, hdr := fun _ => undef, hid := [], rd := none, kp := [], lk := fun _ => none }
theorem lay0_rel {F : Nat → Prop} {w : World} {ds : List D} {vs : Array Value} {n : Nat} (hd : DReps (look F w) ds vs.toList) :
    Rel w (lay0 F w) (lay0 F w) (ds.map .d ++ List.replicate (n - ds.length) .any) [(0, [])] w { tmps := vs ++ Array.replicate (n - vs.size) undef, defers := [] } := by
  have hmem : (look F w).le ((lay0 F w).mem w) := look_le fun b hb hlt => ⟨by simp [lay0, hlt, hb], rfl⟩
  have hlen := hd.length
  exact
    { slots := by
        simp only [Array.toList_append, Array.toList_replicate]
        refine areps_append (areps_d (DReps.mono hmem _ _ hd)) (AReps.of_get ?_ fun i d u h1 h2 => ?_)
        · simp only [List.length_replicate]; rw [← hlen]; simp
        · have := List.mem_of_getElem? h1
          rw [List.eq_of_mem_replicate this]; trivial
      hid := ⟨[], rfl, rfl⟩
      rd := .inl rfl
      mks := ⟨by simp [marks], by simp [marks]⟩
      mkb := by simp [marks]
      kept := fun b o hb => by cases hb
      rdk := fun l hb => by cases hb
      lke := rfl
      lkb := fun g r hg => by cases hg
      lki := fun g g' r r' hg => by cases hg
      objs := fun g c hg => by
        simp only [Sto.get] at hg
        split at hg
        · rename_i e; subst e; simp at hg; subst hg; exact ⟨fun _ => rfl, fun h => absurd rfl h⟩
        · cases hg
      old := fun b _ _ => ⟨rfl, rfl⟩
      size := Nat.le_refl _
      own_lt := fun b g hb => by
        simp only [lay0] at hb
        split at hb
        · assumption
        · cases hb
      os := rfl, tape := rfl, output := rfl }
theorem lay0_below {F : Nat → Prop} {w w' : World} {L : Lay} {e : List AV} {s : Sto} {a : Act} (hr' : Rel w (lay0 F w) L e s w' a) : Below w.heap.size w w' :=
  ⟨hr'.os, hr'.tape, hr'.output, hr'.size, fun b hb => (hr'.old b hb (by simp only [lay0]; rw [if_pos hb]; by_cases hF : F b <;> simp [hF])).2⟩
theorem lay0_fin {P : Program} {F : Nat → Prop} {w w' : World} {L : Lay} {e : List AV} {s : Sto} {a : Act} {fn : Func} {rs : Array ResultVar} {R : End → Prop} (hr' : Rel w (lay0 F w) L e s w' a) (hrs : fn.results = rs) (hq : outK P rs.toList R e s) :
    ∃ v, (results fn a.tmps).run P w' = .ok v w' ∧ (Below w.heap.size w w' ∧ ∃ d, R (.ret d) ∧ DRep (look (fun b => F b ∨ w.heap.size ≤ b) w') d v) := by
  obtain ⟨h1, ds', h2, h3⟩ := hq
  obtain ⟨us, g1, g2⟩ := results_run hr' (fun r => match r with | .tmp t => pure (a.tmps.getD t undef) | .cell x t => do loadVar t (← asAddr (a.tmps.getD x undef))) (fun t => rfl) (fun x t => rfl) rs.toList h1
  have ho := outs_rep hr' (F := F) (fun b hb hF => by simp only [lay0]; rw [if_pos hb, if_pos hF]) (fun b hb hF => by simp only [lay0]; rw [if_pos hb, if_neg hF]) h2 g2
  have hol := ho.length
  refine ⟨if h : us.toArray.size = 1 then us.toArray[0] else .tuple us.toArray, ?_, lay0_below hr', packD ds', h3, ?_⟩
  · unfold results
    rw [hrs, Array.mapM_eq_mapM_toList]
    simp only [Sem.run_bind, Sem.run_map]
    erw [g1]
    rfl
  · match ds', us, hol with
    | [], [], _ => exact ⟨_, rfl, ho⟩
    | [d], [u], _ => obtain ⟨u', ut, e, k1, _⟩ := ho; simp at e; rw [← e.1] at k1; simpa [packD] using k1
    | d1 :: d2 :: dr, u1 :: u2 :: ur, _ => exact ⟨(u1 :: u2 :: ur).toArray, by rw [dif_neg (by simp)], ho⟩


theorem PF_intro {P : Program} {f : Nat} {fn : Func} {c : Code} {n : Nat} {rs : Array ResultVar} {ds : List D} {R : End → Prop} (hf : P.funcs[f]? = some fn) (hc : callable P f = true) (hb : fn.body = some c) (hn : fn.ntmps = n) (hrs : fn.results = rs)
    (h : psem P c (retK P rs.toList R) (ds.map .d ++ List.replicate (n - ds.length) .any) [(0, [])]) : PF P f ds R := by
  refine ⟨hc, fun F w vs hd => (callsFW (r := none) (n := 0)).1 (callsIn_of_wp_marks hf hb trivial (Code.wpIn_mono ?_ (h w (lay0 F w) (lay0 F w) w { tmps := vs ++ Array.replicate (fn.ntmps - vs.size) undef, defers := [] } (by rw [← hn]; exact lay0_rel hd))))⟩
  rintro x a w' ⟨L, e, s, hr', hq⟩
  have fin : (s.get 0 = some [] ∧ outK P rs.toList R e s) → LeavesInM (FW none) 0 P fn a.tmps (fun en w' => Below w.heap.size w w' ∧ match en with
      | .returned v => ∃ d, R (.ret d) ∧ DRep (look (fun b => F b ∨ w.heap.size ≤ b) w') d v
      | .panicked c => R (.pan c)
      | .outgrown => False) a.defers .returning w' := fun ⟨h0, hq⟩ =>
    leave_marks (by simp) a.defers w' (rel_none hr' h0).2 hr'.mks.1 (fun r h => (hr'.mks.2 r h).1) fun w'' hsh => by
      obtain ⟨v, h1, h2⟩ := lay0_fin (hr'.shut (rel_none hr' h0).2 hsh) hrs hq
      exact ⟨v, h1, h2.1, h2.2⟩
  cases x with
  | normal => exact fin hq
  | ret => exact fin hq
  | panic c => exact leave_marks (by simp) a.defers w' (rel_none hr' hq.1).2 hr'.mks.1 (fun r h => (hr'.mks.2 r h).1) fun w'' hsh => ⟨lay0_below (hr'.shut (rel_none hr' hq.1).2 hsh), hq.2⟩
  | exit i => exact hq
  | goto l => exact hq
  | outgrown => exact hq.elim

end Go.E

namespace Go.E
open Go

/-- A mark that keeps an argument as it stands while the walk reckons beside it. -/
inductive At {α : Sort _} : α → Type | mk (x : α) : At x
def mk {α : Sort _} (x : α) : At x := .mk x
abbrev Kt := Exit → List AV → Sto → Prop
def xW (P : Program) (C : CT) (O : Nat → Sch) (tb : Nat) (c : Code) (Q : Kt) (_ : At c) (_ : At Q) (e : List AV) (s : Sto) : Prop := pwp P C O tb c Q e s
def xO (P : Program) (C : CT) (tb : Nat) (ops l : List Oper) (Q : Kt) (_ : At ops) (_ : At l) (_ : At Q) (e : List AV) (s : Sto) : Prop := pops P C tb ops l Q e s
def xP (P : Program) (C : CT) (tb : Nat) (o : Oper) (K : List AV → Sto → Prop) (Q : Kt) (_ : At o) (_ : At K) (_ : At Q) (e : List AV) (s : Sto) : Prop := pop P C tb o K Q e s
def xL (P : Program) (c : Code) (Q : Kt) (_ : At c) (_ : At Q) (e : List AV) (s : Sto) : Prop := ploop P c Q e s
def xJ (P : Program) (C : CT) (tb : Nat) (ops : List Oper) (t : Sch) (Q : Kt) (_ : At ops) (_ : At Q) (e : List AV) (s : Sto) : Prop := pany P C tb ops t Q e s
def xT (P : Program) (C : CT) (tb : Nat) (ops : List Oper) (o : Oper) (K : List AV → Sto → Prop) (Q : Kt) (_ : At ops) (_ : At o) (_ : At K) (_ : At Q) (e : List AV) (s : Sto) : Prop := pstep P C tb ops o K Q e s
def xF (P : Program) (C : CT) (tb : Nat) (ops l : List Oper) (n : Nat) (K : List AV → Sto → Prop) (Q : Kt) (_ : At ops) (_ : At l) (_ : At K) (_ : At Q) (e : List AV) (s : Sto) : Prop := match l[n]? with | some o => pstep P C tb ops o K Q e s | none => False
def xQd (ops : List Oper) (Q : Kt) (_ : At ops) (_ : At Q) : Prop := Pd ops Q
def xC (C : CT) (f : Nat) (args : List AV) (K : AV → List AV → Sto → Prop) (Q : Kt) (_ : At K) (_ : At Q) (e : List AV) (s : Sto) : Prop := C f args K Q e s
def xCv (P : Program) (C : CT) (x : AV) (args : List AV) (K : AV → List AV → Sto → Prop) (Q : Kt) (_ : At K) (_ : At Q) (e : List AV) (s : Sto) : Prop := pcallv P C x args K Q e s
def xYl (C : CT) (g : Nat) (ps : List Nat) (as bd : Code) (args : List AV) (K : AV → List AV → Sto → Prop) (Q : Kt) (_ : At as) (_ : At bd) (_ : At K) (_ : At Q) (e : List AV) (s : Sto) : Prop := C.y g ps as bd args K Q e s
def xCo (C : CT) (t : Option (Nat × List AV)) (K : AV → List AV → Sto → Prop) (Q : Kt) (_ : At K) (_ : At Q) (e : List AV) (s : Sto) : Prop := pcallo C t K Q e s
def xS (N : List AV → Sto → Prop) (Q : Kt) (_ : At N) (_ : At Q) : Kt := fun x e s => seqK N Q x e s
def xB (id : Nat) (Q : Kt) (_ : At Q) : Kt := fun x e s => blkK id Q x e s
def xSc (Q : Kt) (_ : At Q) : Kt := fun x e s => scK Q x e s
def xR (P : Program) (rs : List ResultVar) (R : End → Prop) (_ : At rs) (_ : At R) : Kt := fun x e s => retK P rs R x e s
def xG (c p q : Prop) (_ : At q) : Prop := pguard c p q
/-- The slot of an operation, its Bool known. -/
def sv (ops : List Oper) (e : List AV) (n : Nat) (b : Bool) : List AV := match (ops[n]?).bind (·.dst) with | some d => e.set d (.b b) | none => e
def xV (ops : List Oper) (e : List AV) (j : Nat) (_ : At ops) : AV := gv ops e j
/-- What follows where something is there. -/
def oK {α : Type} (o : Option α) (k : α → Prop) (_ : At k) : Prop := match o with | some x => k x | none => False

section
variable {P : Program} {C : CT} {O : Nat → Sch} {tb : Nat} {Q : Kt} {e : List AV} {s : Sto} {ops : List Oper} {K : List AV → Sto → Prop} {d : Option Nat} {type : Nat} {pos : String} {af : Array Edge} {g : Option (Nat × Bool)} {rest : List Oper}

theorem oK_some {α : Type} {x : α} {k : α → Prop} {i : At k} : oK (some x) k i = k x := id rfl
theorem w_skip {i : At Code.skip} {j : At Q} : xW P C O tb .skip Q i j e s = Q .normal e s := id rfl
theorem w_region {id' : Nat} {l : List Oper} {i : At (Code.region id' l.toArray false)} {j : At Q} : xW P C O tb (.region id' l.toArray false) Q i j e s = xO P C tb l l Q (mk _) (mk _) (mk _) e s := id rfl
theorem w_draw {id' : Nat} {l : List Oper} {i : At (Code.region id' l.toArray true)} {j : At Q} : xW P C O tb (.region id' l.toArray true) Q i j e s = (xQd l Q (mk _) (mk _) ∧ xJ P C tb l (O id') Q (mk _) (mk _) e s) := id rfl
theorem w_seq {x y : Code} {i : At (Code.seq x y)} {j : At Q} : xW P C O tb (.seq x y) Q i j e s = xW P C O tb x (xS (fun e s => xW P C O tb y Q (mk _) (mk _) e s) Q (mk _) (mk _)) (mk _) (mk _) e s := id rfl
theorem w_cond {c : Operand} {x y : Code} {i : At (Code.cond c x y)} {j : At Q} : xW P C O tb (.cond c x y) Q i j e s = ((aval e c).isBool ∧ if (aval e c).bool = true then xW P C O tb x Q (mk _) (mk _) e s else xW P C O tb y Q (mk _) (mk _) e s) := by
  simp only [xW, pwp]; cases (aval e c).bool <;> simp
theorem w_block {id' : Nat} {c : Code} {i : At (Code.block id' c)} {j : At Q} : xW P C O tb (.block id' c) Q i j e s = xW P C O tb c (xB id' Q (mk _)) (mk _) (mk _) e s := id rfl
theorem w_loop {c : Code} {i : At (Code.loop c)} {j : At Q} : xW P C O tb (.loop c) Q i j e s = xL P c Q (mk _) (mk _) e s := id rfl
theorem w_exit {id' : Nat} {i : At (Code.exit id')} {j : At Q} : xW P C O tb (.exit id') Q i j e s = Q (.exit id') e s := id rfl
theorem w_ret {i : At Code.ret} {j : At Q} : xW P C O tb .ret Q i j e s = Q .ret e s := id rfl
theorem w_label {l : Nat} {i : At (Code.label l)} {j : At Q} : xW P C O tb (.label l) Q i j e s = Q .normal e s := id rfl
theorem w_scope {c : Code} {i : At (Code.scope c)} {j : At Q} : xW P C O tb (.scope c) Q i j e s = xW P C O tb c (xSc Q (mk _)) (mk _) (mk _) e s := id rfl

theorem k_seqn {N : List AV → Sto → Prop} {i : At N} {j : At Q} : xS N Q i j .normal e s = N e s := id rfl
theorem k_seqr {N : List AV → Sto → Prop} {i : At N} {j : At Q} : xS N Q i j .ret e s = Q .ret e s := id rfl
theorem k_seqx {N : List AV → Sto → Prop} {i : At N} {j : At Q} {n : Nat} : xS N Q i j (.exit n) e s = Q (.exit n) e s := id rfl
theorem k_seqp {N : List AV → Sto → Prop} {i : At N} {j : At Q} {c : List PanicEntry} : xS N Q i j (.panic c) e s = Q (.panic c) e s := id rfl
theorem k_blkn {n : Nat} {j : At Q} : xB n Q j .normal e s = Q .normal e s := id rfl
theorem k_blkr {n : Nat} {j : At Q} : xB n Q j .ret e s = Q .ret e s := id rfl
theorem k_blkp {n : Nat} {j : At Q} {c : List PanicEntry} : xB n Q j (.panic c) e s = Q (.panic c) e s := id rfl
theorem k_blkx {n m : Nat} {j : At Q} : xB n Q j (.exit m) e s = if m = n then Q .normal e s else Q (.exit m) e s := id rfl
theorem k_scn {j : At Q} : xSc Q j .normal e s = Q .normal e s := id rfl
theorem k_scr {j : At Q} : xSc Q j .ret e s = Q .ret e s := id rfl
theorem k_scx {j : At Q} {n : Nat} : xSc Q j (.exit n) e s = Q (.exit n) e s := id rfl
theorem k_scp {j : At Q} {c : List PanicEntry} : xSc Q j (.panic c) e s = Q (.panic c) e s := id rfl
theorem k_retn {rs : List ResultVar} {R : End → Prop} {i : At rs} {j : At R} : xR P rs R i j .normal e s = (s.get 0 = some [] ∧ resAll P e s rs ∧ oK (AV.outs s (rs.map (resV P e s))) (fun ds => R (.ret (packD ds))) (mk _)) := by
  simp only [xR, retK, oK]; cases AV.outs s (rs.map (resV P e s)) <;> simp
theorem k_retr {rs : List ResultVar} {R : End → Prop} {i : At rs} {j : At R} : xR P rs R i j .ret e s = (s.get 0 = some [] ∧ resAll P e s rs ∧ oK (AV.outs s (rs.map (resV P e s))) (fun ds => R (.ret (packD ds))) (mk _)) := by
  simp only [xR, retK, oK]; cases AV.outs s (rs.map (resV P e s)) <;> simp
theorem k_retp {rs : List ResultVar} {R : End → Prop} {i : At rs} {j : At R} {c : List PanicEntry} : xR P rs R i j (.panic c) e s = (s.get 0 = some [] ∧ R (.pan c)) := id rfl

theorem o_nil {i : At ops} {j : At ([] : List Oper)} {k : At Q} : xO P C tb ops [] Q i j k e s = Q .normal e s := id rfl
theorem o_cons {op : Op} {i : At ops} {j} {k : At Q} : xO P C tb ops (⟨d, op, type, pos, af, none⟩ :: rest) Q i j k e s = xP P C tb ⟨d, op, type, pos, af, none⟩ (fun e s => xO P C tb ops rest Q (mk _) (mk _) (mk _) e s) Q (mk _) (mk _) (mk _) e s := id rfl
/-- What follows at a guard. -/
def gdK (x : AV) (want : Bool) (A B C : Prop) (_ : At A) (_ : At B) (_ : At C) : Prop :=
  match x with | .d (.v (.bool b)) => if (b == want) = true then A else B | .d (.v (.tuple ⟨[]⟩)) => C | _ => False
theorem gd_b {b want : Bool} {A B C : Prop} {i : At A} {j : At B} {k : At C} : gdK (.d (.v (.bool b))) want A B C i j k = if (b == want) = true then A else B := id rfl
theorem gd_no {want : Bool} {A B C : Prop} {i : At A} {j : At B} {k : At C} : gdK (.d (.v undef)) want A B C i j k = C := id rfl
theorem gd_ite {p : Prop} [Decidable p] {u v : Value} {want : Bool} {A B C : Prop} {i : At A} {j : At B} {k : At C} : gdK (.d (.v (if p then u else v))) want A B C i j k = if p then gdK (.d (.v u)) want A B C (mk _) (mk _) (mk _) else gdK (.d (.v v)) want A B C (mk _) (mk _) (mk _) := by split <;> rfl
theorem gv_eq {n : Nat} : gv ops e n = xV ops e n (mk _) := rfl
theorem sv_eq {n : Nat} (h : (gv ops e n).isBool) : sv ops e n (gv ops e n).bool = e := by
  unfold gv at h ⊢; unfold sv
  cases hd : (ops[n]?).bind (·.dst) with
  | none => rfl
  | some d =>
    rw [hd] at h
    simp only at h ⊢
    cases he : e[d]? with
    | none => simp [List.getD, he] at h; exact h.elim
    | some x =>
      have hg : e.getD d .any = x := by simp [List.getD, he]
      rw [hg] at h ⊢
      have hx : x = .b x.bool := by
        cases x with
        | d y => cases y with
          | v z => cases z <;> first | rfl | exact h.elim
          | _ => exact h.elim
        | _ => exact h.elim
      rw [← hx]
      apply List.ext_getElem?
      intro i
      by_cases hi : d = i
      · subst hi
        have hlt : d < e.length := (List.getElem?_eq_some_iff.1 he).1
        rw [List.getElem?_set_self hlt, he]
      · rw [List.getElem?_set_ne hi]
theorem pop_k0 {o : Oper} (hk : k0 o.op = true) : pop P C tb o K Q e s = (ps P s [] o.op (aval e) ∧ K (eset e o.dst (pv P s o.op (aval e))) s) := by
  obtain ⟨dst, op, type, pos, after, guard⟩ := o
  cases op with
  | call c =>
    obtain ⟨cl, args, ts⟩ := c
    cases cl with
    | builtin b => cases b <;> first | (simp only [k0, k0call, Bool.false_eq_true] at hk; done) | simp [pop, hk]
    | value f => simp [k0, k0call] at hk
    | invoke x m => simp [k0, k0call] at hk
  | _ => first | (simp only [k0, Bool.false_eq_true] at hk; done) | simp [pop, k0]
theorem gdK_gd {x : AV} {want : Bool} {A B C : Prop} {i : At A} {j : At B} {k : At C} : gdK x want A B C i j k = (match x.gd with | some (some b) => if b = want then A else B | some none => C | none => False) := by
  cases x with
  | d y =>
    cases y with
    | v z =>
      cases z with
      | bool b => simp [gdK, AV.gd]
      | tuple us => obtain ⟨l⟩ := us; cases l <;> rfl
      | _ => rfl
    | _ => rfl
  | _ => rfl
theorem sv_eq' {n : Nat} {b : Bool} (h : (gv ops e n).gd = some (some b)) : sv ops e n b = e := by
  have h1 : (gv ops e n).isBool ∧ (gv ops e n).bool = b := by
    generalize gv ops e n = x at h
    unfold AV.gd at h
    split at h
    · cases h; exact ⟨trivial, rfl⟩
    · cases h
    · cases h
  have := sv_eq h1.1
  rwa [h1.2] at this
theorem o_guard {op : Op} {n : Nat} {want : Bool} {i : At ops} {j} {k : At Q} : xO P C tb ops (⟨d, op, type, pos, af, some (n, want)⟩ :: rest) Q i j k e s =
    gdK (xV ops e n (mk _)) want (xP P C tb ⟨d, op, type, pos, af, some (n, want)⟩ (fun e s => xO P C tb ops rest Q (mk _) (mk _) (mk _) e s) Q (mk _) (mk _) (mk _) (sv ops e n want) s)
      (xO P C tb ops rest Q (mk _) (mk _) (mk _) (eset (sv ops e n (!want)) d .no) s) (xO P C tb ops rest Q (mk _) (mk _) (mk _) (eset e d .no) s) (mk _) (mk _) (mk _) := by
  rw [gdK_gd]
  simp only [xO, xV, xP, pops]
  cases hz : (gv ops e n).gd with
  | none => rfl
  | some z =>
    cases z with
    | none =>
      have : ((none : Option Bool) == some want) = false := rfl
      simp only [this, gif_false, pguard, true_and, reduceCtorEq, false_implies, not_false_eq_true, true_implies]
      cases hk : k0 op <;> rfl
    | some b =>
      by_cases hw : b = want
      · subst hw
        have hs := sv_eq' hz
        simp only [beq_self_eq_true, if_true, hs, gif_true, pguard, true_implies, not_true_eq_false, false_implies, and_true]
        cases hk : k0 op with
        | true => simp only [pop_k0 (o := ⟨d, op, type, pos, af, some (n, b)⟩) hk]
        | false => rfl
      · have hn : b = !want := by cases b <;> cases want <;> simp_all
        have hs := sv_eq' hz
        rw [hn] at hs
        have h2 : ((some b : Option Bool) == some want) = false := by simpa using hw
        simp only [h2, hw, if_false, hs, gif_false, pguard, true_and, Option.some.injEq, false_implies, not_false_eq_true, true_implies]
        cases hk : k0 op <;> rfl
theorem qd_S {l : List Oper} {N : List AV → Sto → Prop} {i : At N} {j : At Q} {m : At l} {k} : xQd l (xS N Q i j) m k = xQd l Q (mk _) (mk _) := id rfl
theorem qd_B {l : List Oper} {n : Nat} {j : At Q} {m : At l} {k} : xQd l (xB n Q j) m k = xQd l Q (mk _) (mk _) := id rfl
theorem qd_Sc {l : List Oper} {j : At Q} {m : At l} {k} : xQd l (xSc Q j) m k = xQd l Q (mk _) (mk _) := id rfl
theorem qd_R {l : List Oper} {rs : List ResultVar} {R : End → Prop} {i : At rs} {j : At R} {m : At l} {k} : xQd l (xR P rs R i j) m k = True := propext ⟨fun _ => trivial, fun _ _ _ _ _ _ h => h⟩
theorem j_done {i : At ops} {j : At Q} : xJ P C tb ops .done Q i j e s = Q .normal e s := id rfl
theorem j_one {n : Nat} {r : Sch} {i : At ops} {j : At Q} : xJ P C tb ops (.one n r) Q i j e s = xF P C tb ops ops n (fun e s => xJ P C tb ops r Q (mk _) (mk _) e s) Q (mk _) (mk _) (mk _) (mk _) e s := id rfl
theorem j_alt {a b : Sch} {i : At ops} {j : At Q} : xJ P C tb ops (.alt a b) Q i j e s = (xJ P C tb ops a Q (mk _) (mk _) e s ∧ xJ P C tb ops b Q (mk _) (mk _) e s) := id rfl
theorem t_n {op : Op} {i : At ops} {o} {j : At K} {k : At Q} : xT P C tb ops ⟨d, op, type, pos, af, none⟩ K Q i o j k e s = xP P C tb ⟨d, op, type, pos, af, none⟩ K Q (mk _) (mk _) (mk _) e s := id rfl
theorem t_g {op : Op} {n : Nat} {want : Bool} {i : At ops} {o} {j : At K} {k : At Q} : xT P C tb ops ⟨d, op, type, pos, af, some (n, want)⟩ K Q i o j k e s =
    gdK (xV ops e n (mk _)) want (xP P C tb ⟨d, op, type, pos, af, some (n, want)⟩ K Q (mk _) (mk _) (mk _) (sv ops e n want) s)
      (K (eset (sv ops e n (!want)) d .no) s) (K (eset e d .no) s) (mk _) (mk _) (mk _) := by
  rw [gdK_gd]
  simp only [xT, xV, xP, pstep]
  cases hz : (gv ops e n).gd with
  | none => rfl
  | some z =>
    cases z with
    | none =>
      have : ((none : Option Bool) == some want) = false := rfl
      simp only [this, gif_false, pguard, true_and, reduceCtorEq, false_implies, not_false_eq_true, true_implies]
      cases hk : k0 op <;> rfl
    | some b =>
      by_cases hw : b = want
      · subst hw
        have hs := sv_eq' hz
        simp only [beq_self_eq_true, if_true, hs, gif_true, pguard, true_implies, not_true_eq_false, false_implies, and_true]
        cases hk : k0 op with
        | true => simp only [pop_k0 (o := ⟨d, op, type, pos, af, some (n, b)⟩) hk]
        | false => rfl
      · have hn : b = !want := by cases b <;> cases want <;> simp_all
        have hs := sv_eq' hz
        rw [hn] at hs
        have h2 : ((some b : Option Bool) == some want) = false := by simpa using hw
        simp only [h2, hw, if_false, hs, gif_false, pguard, true_and, Option.some.injEq, false_implies, not_false_eq_true, true_implies]
        cases hk : k0 op <;> rfl
theorem f0 {x0 : Oper} {l : List Oper} {i : At ops} {j} {m : At K} {k : At Q} : xF P C tb ops (x0 :: l) 0 K Q i j m k e s = xT P C tb ops x0 K Q (mk _) (mk _) (mk _) (mk _) e s := id rfl
theorem f1 {x0 x1 : Oper} {l : List Oper} {i : At ops} {j} {m : At K} {k : At Q} : xF P C tb ops (x0 :: x1 :: l) 1 K Q i j m k e s = xT P C tb ops x1 K Q (mk _) (mk _) (mk _) (mk _) e s := id rfl
theorem f2 {x0 x1 x2 : Oper} {l : List Oper} {i : At ops} {j} {m : At K} {k : At Q} : xF P C tb ops (x0 :: x1 :: x2 :: l) 2 K Q i j m k e s = xT P C tb ops x2 K Q (mk _) (mk _) (mk _) (mk _) e s := id rfl
theorem f3 {x0 x1 x2 x3 : Oper} {l : List Oper} {i : At ops} {j} {m : At K} {k : At Q} : xF P C tb ops (x0 :: x1 :: x2 :: x3 :: l) 3 K Q i j m k e s = xT P C tb ops x3 K Q (mk _) (mk _) (mk _) (mk _) e s := id rfl
theorem f4 {x0 x1 x2 x3 x4 : Oper} {l : List Oper} {i : At ops} {j} {m : At K} {k : At Q} : xF P C tb ops (x0 :: x1 :: x2 :: x3 :: x4 :: l) 4 K Q i j m k e s = xT P C tb ops x4 K Q (mk _) (mk _) (mk _) (mk _) e s := id rfl
theorem f5 {x0 x1 x2 x3 x4 x5 : Oper} {l : List Oper} {i : At ops} {j} {m : At K} {k : At Q} : xF P C tb ops (x0 :: x1 :: x2 :: x3 :: x4 :: x5 :: l) 5 K Q i j m k e s = xT P C tb ops x5 K Q (mk _) (mk _) (mk _) (mk _) e s := id rfl
theorem f6 {x0 x1 x2 x3 x4 x5 x6 : Oper} {l : List Oper} {i : At ops} {j} {m : At K} {k : At Q} : xF P C tb ops (x0 :: x1 :: x2 :: x3 :: x4 :: x5 :: x6 :: l) 6 K Q i j m k e s = xT P C tb ops x6 K Q (mk _) (mk _) (mk _) (mk _) e s := id rfl
theorem f7 {x0 x1 x2 x3 x4 x5 x6 x7 : Oper} {l : List Oper} {i : At ops} {j} {m : At K} {k : At Q} : xF P C tb ops (x0 :: x1 :: x2 :: x3 :: x4 :: x5 :: x6 :: x7 :: l) 7 K Q i j m k e s = xT P C tb ops x7 K Q (mk _) (mk _) (mk _) (mk _) e s := id rfl
theorem f8 {x0 x1 x2 x3 x4 x5 x6 x7 x8 : Oper} {l : List Oper} {i : At ops} {j} {m : At K} {k : At Q} : xF P C tb ops (x0 :: x1 :: x2 :: x3 :: x4 :: x5 :: x6 :: x7 :: x8 :: l) 8 K Q i j m k e s = xT P C tb ops x8 K Q (mk _) (mk _) (mk _) (mk _) e s := id rfl
theorem fm {x0 x1 x2 x3 x4 x5 x6 x7 x8 : Oper} {l : List Oper} {n : Nat} {i : At ops} {j} {m : At K} {k : At Q} : xF P C tb ops (x0 :: x1 :: x2 :: x3 :: x4 :: x5 :: x6 :: x7 :: x8 :: l) (n + 9) K Q i j m k e s = xF P C tb ops l n K Q (mk _) (mk _) (mk _) (mk _) e s := id rfl
theorem v_gv {n : Nat} {i : At ops} : xV ops e n i = match (ops[n]?).bind (·.dst) with | some d => e.getD d .any | none => .any := id rfl
theorem b_true {b : Bool} : (b == true) = b := by simp
theorem b_false {b : Bool} : (b == false) = !b := by simp

theorem k_move {x : Operand} : k0 (.move x) = true := rfl
theorem k_assign {x : Operand} : k0 (.assign x) = true := rfl
theorem k_pick {x y z : Operand} : k0 (.pick x y z) = true := rfl
theorem k_bin {op : BinOp} {t t' : Nat} {x y : Operand} : k0 (.binOp op t x y t') = true := rfl
theorem k_un {op : UnOp} {t : Nat} {x : Operand} : k0 (.unOp op t x) = true := rfl
theorem k_conv {a b : Nat} {x : Operand} : k0 (.convert a b x) = true := rfl
theorem k_fieldAddr {a b : Nat} {x : Operand} : k0 (.fieldAddr a x b) = true := rfl
theorem k_field {a b : Nat} {x : Operand} : k0 (.field a x b) = true := rfl
theorem k_nil {x : Operand} : k0 (.nilCheck x) = true := rfl
theorem k_ixa {a : Nat} {x y : Operand} : k0 (.indexAddr a x y) = true := rfl
theorem k_ix {a : Nat} {x y : Operand} : k0 (.index a x y) = true := rfl
theorem k_load {a : Nat} {x : Operand} : k0 (.load a x) = true := rfl
theorem k_ext {a : Nat} {x : Operand} : k0 (.extract x a) = true := rfl
theorem k_mki {a : Nat} {x : Operand} : k0 (.makeInterface a x) = true := rfl
theorem k_mkf {f : Fn} {x y : Array Operand} : k0 (.makeFunc f x y) = true := rfl
theorem k_build {a : Nat} {x : Array (Nat × Operand)} : k0 (.build a x) = true := rfl
theorem k_slice {a : Nat} {x : Operand} {y z u : Option Operand} : k0 (.slice a x y z u) = true := rfl
theorem k_asrt {a b : Nat} {x : Operand} {c : Bool} : k0 (.typeAssert x a b c) = true := rfl
theorem k_len {x : Array Operand} {y : Array TypeId} : k0 (.call ⟨.builtin .len, x, y⟩) = true := rfl
theorem k_max {x : Array Operand} {y : Array TypeId} : k0 (.call ⟨.builtin .max, x, y⟩) = true := rfl
theorem k_min {x : Array Operand} {y : Array TypeId} : k0 (.call ⟨.builtin .min, x, y⟩) = true := rfl
theorem k_app {x : Array Operand} {y : Array TypeId} : k0 (.call ⟨.builtin .append, x, y⟩) = false := rfl
theorem k_val {f : Operand} {x : Array Operand} {y : Array TypeId} : k0 (.call ⟨.value f, x, y⟩) = false := rfl
theorem k_inv {f : Operand} {m : String} {x : Array Operand} {y : Array TypeId} : k0 (.call ⟨.invoke f m, x, y⟩) = false := rfl
theorem k_bs {a b : Nat} {x : Array (Nat × Operand)} : k0 (.buildSlice a b x) = false := rfl
theorem k_mk {a : Nat} {x y : Operand} : k0 (.makeSlice a x y) = false := rfl
theorem k_box {a : Nat} {x : Operand} : k0 (.box a x) = false := rfl
theorem k_alloc {a : Nat} : k0 (.alloc a) = false := rfl
theorem k_store {a : Nat} {x y : Operand} : k0 (.store a x y) = false := rfl
theorem p_move {m2 : At K} {m3 : At Q} {x : Operand} {m1 : At (⟨d, .move x, type, pos, af, g⟩ : Oper)} : xP P C tb ⟨d, .move x, type, pos, af, g⟩ K Q m1 m2 m3 e s = K (eset e d (aval e x)) s := by simp [xP, pop, k0, ps, pv]
theorem p_assign {m2 : At K} {m3 : At Q} {x : Operand} {m1 : At (⟨d, .assign x, type, pos, af, g⟩ : Oper)} : xP P C tb ⟨d, .assign x, type, pos, af, g⟩ K Q m1 m2 m3 e s = K (eset e d (aval e x)) s := by simp [xP, pop, k0, ps, pv]
theorem p_pick {m2 : At K} {m3 : At Q} {c x y : Operand} {m1 : At (⟨d, .pick c x y, type, pos, af, g⟩ : Oper)} : xP P C tb ⟨d, .pick c x y, type, pos, af, g⟩ K Q m1 m2 m3 e s = ((aval e c).isBool ∧ K (eset e d (gif (aval e c).bool (aval e x) (aval e y))) s) := by simp [xP, pop, k0, ps, pv]
theorem p_bint {m2 : At K} {m3 : At Q} {op : BinOp} {t t' : Nat} {x : Operand} {n : Nat} {m1 : At (⟨d, .binOp op t x (.tmp n) t', type, pos, af, g⟩ : Oper)} : xP P C tb ⟨d, .binOp op t x (.tmp n) t', type, pos, af, g⟩ K Q m1 m2 m3 e s = (binS P op t (aval e x) (aval e (.tmp n)) ∧ K (eset e d (binV P op t (aval e x) (aval e (.tmp n)))) s) := by simp [xP, pop, k0, ps, pv, nilO]
theorem p_bini {m2 : At K} {m3 : At Q} {op : BinOp} {t t' : Nat} {x : Operand} {k : IntKind} {n : Int} {m1 : At (⟨d, .binOp op t x (.const (.int k n)) t', type, pos, af, g⟩ : Oper)} : xP P C tb ⟨d, .binOp op t x (.const (.int k n)) t', type, pos, af, g⟩ K Q m1 m2 m3 e s = (binS P op t (aval e x) (aval e (.const (.int k n))) ∧ K (eset e d (binV P op t (aval e x) (aval e (.const (.int k n))))) s) := by simp [xP, pop, k0, ps, pv, nilO]
theorem p_binb {m2 : At K} {m3 : At Q} {op : BinOp} {t t' : Nat} {x : Operand} {b : Bool} {m1 : At (⟨d, .binOp op t x (.const (.bool b)) t', type, pos, af, g⟩ : Oper)} : xP P C tb ⟨d, .binOp op t x (.const (.bool b)) t', type, pos, af, g⟩ K Q m1 m2 m3 e s = (binS P op t (aval e x) (aval e (.const (.bool b))) ∧ K (eset e d (binV P op t (aval e x) (aval e (.const (.bool b))))) s) := by simp [xP, pop, k0, ps, pv, nilO]
theorem p_bins {m2 : At K} {m3 : At Q} {op : BinOp} {t t' : Nat} {x : Operand} {b : ByteArray} {m1 : At (⟨d, .binOp op t x (.const (.string b)) t', type, pos, af, g⟩ : Oper)} : xP P C tb ⟨d, .binOp op t x (.const (.string b)) t', type, pos, af, g⟩ K Q m1 m2 m3 e s = (binS P op t (aval e x) (aval e (.const (.string b))) ∧ K (eset e d (binV P op t (aval e x) (aval e (.const (.string b))))) s) := by simp [xP, pop, k0, ps, pv, nilO]
theorem p_bnif {m2 : At K} {m3 : At Q} {op : BinOp} {t t' : Nat} {x : Operand} {m1 : At (⟨d, .binOp op t x (.const .nilIface) t', type, pos, af, g⟩ : Oper)} : xP P C tb ⟨d, .binOp op t x (.const .nilIface) t', type, pos, af, g⟩ K Q m1 m2 m3 e s = (((nilTy P t = 1 ∧ (nilX (aval e x)).1 = 1) ∧ isEqB op) ∧ K (eset e d (nilV op (aval e x))) s) := by
  have h0 : ∀ (z : Value), (∀ cs, z ≠ .agg cs) → aval e (.const z) = .d (.v z) := fun z hz => by cases z <;> first | rfl | exact absurd rfl (hz _)
  simp [xP, pop, k0, ps, pv, nilO, nilS, h0]
theorem p_bnpt {m2 : At K} {m3 : At Q} {op : BinOp} {t t' : Nat} {x : Operand} {m1 : At (⟨d, .binOp op t x (.const (.pointer none)) t', type, pos, af, g⟩ : Oper)} : xP P C tb ⟨d, .binOp op t x (.const (.pointer none)) t', type, pos, af, g⟩ K Q m1 m2 m3 e s = (((nilTy P t = 2 ∧ (nilX (aval e x)).1 = 2) ∧ isEqB op) ∧ K (eset e d (nilV op (aval e x))) s) := by
  have h0 : ∀ (z : Value), (∀ cs, z ≠ .agg cs) → aval e (.const z) = .d (.v z) := fun z hz => by cases z <;> first | rfl | exact absurd rfl (hz _)
  simp [xP, pop, k0, ps, pv, nilO, nilS, h0]
theorem p_bnfn {m2 : At K} {m3 : At Q} {op : BinOp} {t t' : Nat} {x : Operand} {m1 : At (⟨d, .binOp op t x (.const .nilFunc) t', type, pos, af, g⟩ : Oper)} : xP P C tb ⟨d, .binOp op t x (.const .nilFunc) t', type, pos, af, g⟩ K Q m1 m2 m3 e s = (((nilTy P t = 4 ∧ (nilX (aval e x)).1 = 4) ∧ isEqB op) ∧ K (eset e d (nilV op (aval e x))) s) := by
  have h0 : ∀ (z : Value), (∀ cs, z ≠ .agg cs) → aval e (.const z) = .d (.v z) := fun z hz => by cases z <;> first | rfl | exact absurd rfl (hz _)
  simp [xP, pop, k0, ps, pv, nilO, nilS, h0]
theorem p_un {m2 : At K} {m3 : At Q} {op : UnOp} {t : Nat} {x : Operand} {m1 : At (⟨d, .unOp op t x, type, pos, af, g⟩ : Oper)} : xP P C tb ⟨d, .unOp op t x, type, pos, af, g⟩ K Q m1 m2 m3 e s = (unVs op (aval e x) ∧ K (eset e d (unV op (aval e x))) s) := by simp [xP, pop, k0, ps, pv]
theorem p_field {m2 : At K} {m3 : At Q} {t f : Nat} {x : Operand} {m1 : At (⟨d, .field t x f, type, pos, af, g⟩ : Oper)} : xP P C tb ⟨d, .field t x f, type, pos, af, g⟩ K Q m1 m2 m3 e s = (ps P s [] (.field t x f) (aval e) ∧ K (eset e d (pv P s (.field t x f) (aval e))) s) := by simp [xP, pop, k0]
theorem p_fieldAddr {m2 : At K} {m3 : At Q} {t f : Nat} {x : Operand} {m1 : At (⟨d, .fieldAddr t x f, type, pos, af, g⟩ : Oper)} : xP P C tb ⟨d, .fieldAddr t x f, type, pos, af, g⟩ K Q m1 m2 m3 e s = (((fo P t f).isSome = true ∧ (aval e x).isPtr) ∧ K (eset e d (addF (aval e x) ((fo P t f).getD 0))) s) := by simp [xP, pop, k0, ps, pv]
theorem p_indexAddr {m2 : At K} {m3 : At Q} {t : Nat} {x i : Operand} {m1 : At (⟨d, .indexAddr t x i, type, pos, af, g⟩ : Oper)} : xP P C tb ⟨d, .indexAddr t x i, type, pos, af, g⟩ K Q m1 m2 m3 e s = (ps P s [] (.indexAddr t x i) (aval e) ∧ K (eset e d (idxV (aval e x) (aval e i).int)) s) := by simp [xP, pop, k0, pv]
theorem p_load {m2 : At K} {m3 : At Q} {t : Nat} {x : Operand} {m1 : At (⟨d, .load t x, type, pos, af, g⟩ : Oper)} : xP P C tb ⟨d, .load t x, type, pos, af, g⟩ K Q m1 m2 m3 e s = (loadS P s [] t (aval e x) ∧ K (eset e d (loadV P s t (aval e x))) s) := by simp [xP, pop, k0, ps, pv]
theorem p_extract {m2 : At K} {m3 : At Q} {x : Operand} {i : Nat} {m1 : At (⟨d, .extract x i, type, pos, af, g⟩ : Oper)} : xP P C tb ⟨d, .extract x i, type, pos, af, g⟩ K Q m1 m2 m3 e s = (extS (aval e x) i ∧ K (eset e d (extV (aval e x) i)) s) := by simp [xP, pop, k0, ps, pv]
theorem p_nilCheck {m2 : At K} {m3 : At Q} {x : Operand} {m1 : At (⟨d, .nilCheck x, type, pos, af, g⟩ : Oper)} : xP P C tb ⟨d, .nilCheck x, type, pos, af, g⟩ K Q m1 m2 m3 e s = ((aval e x).isPtr ∧ K (eset e d (aval e x)) s) := by simp [xP, pop, k0, ps, pv]
theorem p_convert {m2 : At K} {m3 : At Q} {a b : Nat} {x : Operand} {m1 : At (⟨d, .convert a b x, type, pos, af, g⟩ : Oper)} : xP P C tb ⟨d, .convert a b x, type, pos, af, g⟩ K Q m1 m2 m3 e s = (((intTy P b).isSome = true ∧ (P.underlying a).isSome = true ∧ (aval e x).isInt) ∧ K (eset e d (cvI P b (aval e x))) s) := by simp [xP, pop, k0, ps, pv]
theorem p_build {m2 : At K} {m3 : At Q} {t : Nat} {parts : Array (Nat × Operand)} {m1 : At (⟨d, .build t parts, type, pos, af, g⟩ : Oper)} : xP P C tb ⟨d, .build t parts, type, pos, af, g⟩ K Q m1 m2 m3 e s = (ps P s [] (.build t parts) (aval e) ∧ K (eset e d (pv P s (.build t parts) (aval e))) s) := by simp [xP, pop, k0]
theorem p_callf {m2 : At K} {m3 : At Q} {f : Operand} {args : Array Operand} {ts : Array TypeId} {m1 : At (⟨d, .call ⟨.value f, args, ts⟩, type, pos, af, g⟩ : Oper)} : xP P C tb ⟨d, .call ⟨.value f, args, ts⟩, type, pos, af, g⟩ K Q m1 m2 m3 e s = xCv P C (aval e f) (args.toList.map (aval e)) (fun r e s => K (eset e d r) s) Q (mk _) (mk _) e s := id rfl
theorem cv_d {x : D} {args : List AV} {K : AV → List AV → Sto → Prop} {i : At K} {j : At Q} : xCv P C (.d x) args K Q i j e s = xCo C (target P (.d x) args) K Q (mk _) (mk _) e s := id rfl
theorem cv_clo {fn : Fn} {a b args : List AV} {K : AV → List AV → Sto → Prop} {i : At K} {j : At Q} : xCv P C (.clo fn a b) args K Q i j e s = xCo C (target P (.clo fn a b) args) K Q (mk _) (mk _) e s := id rfl
theorem cv_y {G : Nat} {ps : List Nat} {as bd : Code} {args : List AV} {K : AV → List AV → Sto → Prop} {i : At K} {j : At Q} : xCv P C (.yld G ps as bd) args K Q i j e s = xYl C G ps as bd args K Q (mk _) (mk _) (mk _) (mk _) e s := id rfl
theorem p_calli {m2 : At K} {m3 : At Q} {x : Operand} {m : String} {args : Array Operand} {ts : Array TypeId} {m1 : At (⟨d, .call ⟨.invoke x m, args, ts⟩, type, pos, af, g⟩ : Oper)} : xP P C tb ⟨d, .call ⟨.invoke x m, args, ts⟩, type, pos, af, g⟩ K Q m1 m2 m3 e s = xCo C (invTarget P (aval e x) m (args.toList.map (aval e))) (fun r e s => K (eset e d r) s) Q (mk _) (mk _) e s := id rfl
theorem p_len {m2 : At K} {m3 : At Q} {x : Operand} {t : Nat} {m1 : At (⟨d, .call ⟨.builtin .len, #[x], #[t]⟩, type, pos, af, g⟩ : Oper)} : xP P C tb ⟨d, .call ⟨.builtin .len, #[x], #[t]⟩, type, pos, af, g⟩ K Q m1 m2 m3 e s =
    ((if isStringTy P t = true then (aval e x).isStr else (isSliceTy P t = true ∧ (aval e x).isSlice)) ∧ K (eset e d (if isStringTy P t = true then .i (aval e x).str.size else .i (aval e x).rows.length)) s) := by simp [xP, pop, k0, k0call, ps, pv, callS, callV]
theorem p_max {m2 : At K} {m3 : At Q} {x y : Operand} {ts : Array Nat} {m1 : At (⟨d, .call ⟨.builtin .max, #[x, y], ts⟩, type, pos, af, g⟩ : Oper)} : xP P C tb ⟨d, .call ⟨.builtin .max, #[x, y], ts⟩, type, pos, af, g⟩ K Q m1 m2 m3 e s =
    (((aval e x).isInt ∧ (aval e y).isInt) ∧ K (eset e d (.d (.v (.int (aval e x).kind (max (aval e x).int (aval e y).int))))) s) := by simp [xP, pop, k0, k0call, ps, pv, callS, callV]
theorem p_min {m2 : At K} {m3 : At Q} {x y : Operand} {ts : Array Nat} {m1 : At (⟨d, .call ⟨.builtin .min, #[x, y], ts⟩, type, pos, af, g⟩ : Oper)} : xP P C tb ⟨d, .call ⟨.builtin .min, #[x, y], ts⟩, type, pos, af, g⟩ K Q m1 m2 m3 e s =
    (((aval e x).isInt ∧ (aval e y).isInt) ∧ K (eset e d (.d (.v (.int (aval e x).kind (min (aval e x).int (aval e y).int))))) s) := by simp [xP, pop, k0, k0call, ps, pv, callS, callV]

theorem t_func {f : Nat} {args : List AV} : target P (.d (.v (.func (.func f) #[] #[]))) args = some (f, args) := by simp [target]
theorem t_some {f : Nat} {args : List AV} {K : AV → List AV → Sto → Prop} {i : At K} {j : At Q} : xCo C (some (f, args)) K Q i j e s = xC C f args K Q (mk _) (mk _) e s := id rfl

theorem a_tmp {t : Nat} : aval e (.tmp t) = e.getD t .any := id rfl
theorem a_const {v : Value} : aval e (.const v) = cst v := id rfl
theorem a_func {f : Nat} : aval e (.func f) = .d (.v (.func (.func f) #[] #[])) := id rfl
theorem c_int {k : IntKind} {n : Int} : cst (.int k n) = .d (.v (.int k n)) := id rfl
theorem c_bool {b : Bool} : cst (.bool b) = .d (.v (.bool b)) := id rfl
theorem c_str {b : ByteArray} : cst (.string b) = .d (.v (.string b)) := id rfl
theorem c_sl {a : Option Addr} {n c : Nat} : cst (.slice a n c) = .d (.v (.slice a n c)) := id rfl
theorem c_nil : cst .nilIface = .d (.v .nilIface) := id rfl
theorem c_ptr {a : Option Addr} : cst (.pointer a) = .d (.v (.pointer a)) := id rfl
theorem e_some {i : Nat} {x : AV} : eset e (some i) x = e.set i x := id rfl
theorem e_none {x : AV} : eset e none x = e := id rfl
theorem g_zero {α : Type} {x y : α} {l : List α} : (x :: l).getD 0 y = x := id rfl
theorem g_succ {α : Type} {x y : α} {l : List α} {n : Nat} : (x :: l).getD (n + 1) y = l.getD n y := id rfl

theorem g0 {α : Type} {x0 y : α} {l : List α} : (x0 :: l).getD 0 y = x0 := id rfl
theorem s0 {α : Type} {x0 y : α} {l : List α} : (x0 :: l).set 0 y = y :: l := id rfl
theorem g1 {α : Type} {x0 x1 y : α} {l : List α} : (x0 :: x1 :: l).getD 1 y = x1 := id rfl
theorem s1 {α : Type} {x0 x1 y : α} {l : List α} : (x0 :: x1 :: l).set 1 y = x0 :: y :: l := id rfl
theorem g2 {α : Type} {x0 x1 x2 y : α} {l : List α} : (x0 :: x1 :: x2 :: l).getD 2 y = x2 := id rfl
theorem s2 {α : Type} {x0 x1 x2 y : α} {l : List α} : (x0 :: x1 :: x2 :: l).set 2 y = x0 :: x1 :: y :: l := id rfl
theorem g3 {α : Type} {x0 x1 x2 x3 y : α} {l : List α} : (x0 :: x1 :: x2 :: x3 :: l).getD 3 y = x3 := id rfl
theorem s3 {α : Type} {x0 x1 x2 x3 y : α} {l : List α} : (x0 :: x1 :: x2 :: x3 :: l).set 3 y = x0 :: x1 :: x2 :: y :: l := id rfl
theorem g4 {α : Type} {x0 x1 x2 x3 x4 y : α} {l : List α} : (x0 :: x1 :: x2 :: x3 :: x4 :: l).getD 4 y = x4 := id rfl
theorem s4 {α : Type} {x0 x1 x2 x3 x4 y : α} {l : List α} : (x0 :: x1 :: x2 :: x3 :: x4 :: l).set 4 y = x0 :: x1 :: x2 :: x3 :: y :: l := id rfl
theorem g5 {α : Type} {x0 x1 x2 x3 x4 x5 y : α} {l : List α} : (x0 :: x1 :: x2 :: x3 :: x4 :: x5 :: l).getD 5 y = x5 := id rfl
theorem s5 {α : Type} {x0 x1 x2 x3 x4 x5 y : α} {l : List α} : (x0 :: x1 :: x2 :: x3 :: x4 :: x5 :: l).set 5 y = x0 :: x1 :: x2 :: x3 :: x4 :: y :: l := id rfl
theorem g6 {α : Type} {x0 x1 x2 x3 x4 x5 x6 y : α} {l : List α} : (x0 :: x1 :: x2 :: x3 :: x4 :: x5 :: x6 :: l).getD 6 y = x6 := id rfl
theorem s6 {α : Type} {x0 x1 x2 x3 x4 x5 x6 y : α} {l : List α} : (x0 :: x1 :: x2 :: x3 :: x4 :: x5 :: x6 :: l).set 6 y = x0 :: x1 :: x2 :: x3 :: x4 :: x5 :: y :: l := id rfl
theorem g7 {α : Type} {x0 x1 x2 x3 x4 x5 x6 x7 y : α} {l : List α} : (x0 :: x1 :: x2 :: x3 :: x4 :: x5 :: x6 :: x7 :: l).getD 7 y = x7 := id rfl
theorem s7 {α : Type} {x0 x1 x2 x3 x4 x5 x6 x7 y : α} {l : List α} : (x0 :: x1 :: x2 :: x3 :: x4 :: x5 :: x6 :: x7 :: l).set 7 y = x0 :: x1 :: x2 :: x3 :: x4 :: x5 :: x6 :: y :: l := id rfl
theorem g8 {α : Type} {x0 x1 x2 x3 x4 x5 x6 x7 x8 y : α} {l : List α} : (x0 :: x1 :: x2 :: x3 :: x4 :: x5 :: x6 :: x7 :: x8 :: l).getD 8 y = x8 := id rfl
theorem s8 {α : Type} {x0 x1 x2 x3 x4 x5 x6 x7 x8 y : α} {l : List α} : (x0 :: x1 :: x2 :: x3 :: x4 :: x5 :: x6 :: x7 :: x8 :: l).set 8 y = x0 :: x1 :: x2 :: x3 :: x4 :: x5 :: x6 :: x7 :: y :: l := id rfl
theorem gm {α : Type} {x0 x1 x2 x3 x4 x5 x6 x7 x8 y : α} {l : List α} {n : Nat} : (x0 :: x1 :: x2 :: x3 :: x4 :: x5 :: x6 :: x7 :: x8 :: l).getD (n + 9) y = l.getD n y := id rfl
theorem sm {α : Type} {x0 x1 x2 x3 x4 x5 x6 x7 x8 y : α} {l : List α} {n : Nat} : (x0 :: x1 :: x2 :: x3 :: x4 :: x5 :: x6 :: x7 :: x8 :: l).set (n + 9) y = x0 :: x1 :: x2 :: x3 :: x4 :: x5 :: x6 :: x7 :: x8 :: l.set n y := id rfl
/-! ### Readings -/
theorem r_int {k : IntKind} {n : Int} : AV.int (.d (.v (.int k n))) = n := id rfl
theorem r_kind {k : IntKind} {n : Int} : AV.kind (.d (.v (.int k n))) = k := id rfl
theorem r_bool {b : Bool} : AV.bool (.d (.v (.bool b))) = b := id rfl
theorem r_isInt {k : IntKind} {n : Int} : AV.isInt (.d (.v (.int k n))) = True := id rfl
theorem r_isBool {b : Bool} : AV.isBool (.d (.v (.bool b))) = True := id rfl
theorem r_bool_ite {p : Prop} [Decidable p] {x y : AV} : AV.bool (if p then x else y) = if p then x.bool else y.bool := by split <;> rfl
theorem r_int_ite {p : Prop} [Decidable p] {x y : AV} : AV.int (if p then x else y) = if p then x.int else y.int := by split <;> rfl
theorem r_isBool_ite {p : Prop} [Decidable p] {x y : AV} : AV.isBool (if p then x else y) = if p then x.isBool else y.isBool := by split <;> rfl
theorem r_isInt_ite {p : Prop} [Decidable p] {x y : AV} : AV.isInt (if p then x else y) = if p then x.isInt else y.isInt := by split <;> rfl
theorem r_ite_d {p : Prop} [Decidable p] {x y : D} : (if p then AV.d x else AV.d y) = AV.d (if p then x else y) := by split <;> rfl
theorem r_ite_v {p : Prop} [Decidable p] {x y : Value} : (if p then D.v x else D.v y) = D.v (if p then x else y) := by split <;> rfl
theorem r_ite_bool {p : Prop} [Decidable p] {x y : Bool} : (if p then Value.bool x else Value.bool y) = Value.bool (if p then x else y) := by split <;> rfl
theorem r_ite_int {p : Prop} [Decidable p] {k : IntKind} {x y : Int} : (if p then Value.int k x else Value.int k y) = Value.int k (if p then x else y) := by split <;> rfl

theorem wrap_ok {n : Int} (h1 : -9223372036854775808 ≤ n) (h2 : n ≤ 9223372036854775807) : IntKind.i64.wrap n = n := IntWalk.i64_in n (by omega)
end
end Go.E

namespace Go.E
open Go Go.RowKit

section
variable {P : Program} {C : CT} {tb : Nat} {Q : Kt} {e : List AV} {s : Sto} {K : List AV → Sto → Prop} {d : Nat} {type : Nat} {pos : String} {af : Array Edge} {g : Option (Nat × Bool)}
theorem p_box {m2 : At K} {m3 : At Q} {t : Nat} {x : Operand} {m1 : At (⟨some d, .box t x, type, pos, af, g⟩ : Oper)} : xP P C tb ⟨some d, .box t x, type, pos, af, g⟩ K Q m1 m2 m3 e s =
    oK (aval e x).cells? (fun cs => tb + d + 1 < 1000000000 ∧ AV.mens (tb + d + 1) cs = false ∧ K ((e.map (AV.kill (tb + d + 1))).set d (.ref (tb + d + 1) 0)) ((s.kill (tb + d + 1)).ins (tb + d + 1) cs)) (mk _) := by
  simp only [xP, pop, oK]; cases (aval e x).cells? <;> rfl
theorem p_alloc {m2 : At K} {m3 : At Q} {t : Nat} {m1 : At (⟨some d, .alloc t, type, pos, af, g⟩ : Oper)} : xP P C tb ⟨some d, .alloc t, type, pos, af, g⟩ K Q m1 m2 m3 e s =
    oK (zcells P t) (fun cs => tb + d + 1 < 1000000000 ∧ K ((e.map (AV.kill (tb + d + 1))).set d (.ref (tb + d + 1) 0)) ((s.kill (tb + d + 1)).ins (tb + d + 1) (cs.map .d))) (mk _) := by
  simp only [xP, pop, oK]; cases zcells P t <;> rfl
/-- An append behind which the old slice is still read. -/
def frK (P : Program) (t t' : Nat) (x y : AV) (d : Nat) (K : List AV → Sto → Prop) (_ : At K) (e : List AV) (s : Sto) : Prop :=
  match x with
  | .own g el' sz' rows => oK (rowTy P t) (fun z => (t = t' ∧ g ≠ 0 ∧ s.get g = none ∧ el' = z.1 ∧ sz' = z.2.1 ∧ y.isSl z.2.1 ∧ (rows.length + y.rows.length) * z.2.2 ≤ 140737488355328 ∧ rows.length + y.rows.length ≤ 4611686018427387904) ∧
        K ((e.map (AV.frz g z.1 z.2.1)).set d (.d (.sl z.2.1 (rows ++ y.rows)))) (s.frz g z.1 z.2.1)) (mk _)
  | _ => False
theorem fr_own {t t' g el' sz' d : Nat} {rows : List (List D)} {y : AV} {m : At K} : frK P t t' (.own g el' sz' rows) y d K m e s = oK (rowTy P t) (fun z => (t = t' ∧ g ≠ 0 ∧ s.get g = none ∧ el' = z.1 ∧ sz' = z.2.1 ∧ y.isSl z.2.1 ∧ (rows.length + y.rows.length) * z.2.2 ≤ 140737488355328 ∧ rows.length + y.rows.length ≤ 4611686018427387904) ∧
        K ((e.map (AV.frz g z.1 z.2.1)).set d (.d (.sl z.2.1 (rows ++ y.rows)))) (s.frz g z.1 z.2.1)) (mk _) := id rfl
theorem p_append {m2 : At K} {m3 : At Q} {x y : Operand} {t t' : Nat} {m1 : At (⟨some d, .call ⟨.builtin .append, #[x, y], #[t, t']⟩, type, pos, af, g⟩ : Oper)} : xP P C tb ⟨some d, .call ⟨.builtin .append, #[x, y], #[t, t']⟩, type, pos, af, g⟩ K Q m1 m2 m3 e s =
    if CT.z C d = true then frK P t t' (aval e x) (aval e y) d K (mk _) e s else
    oK (rowTy P t) (fun z => t = t' ∧ (aval e x).isApp z.1 z.2.1 ∧ (aval e y).isSl z.2.1 ∧ ((aval e x).rows.length + (aval e y).rows.length) * z.2.2 ≤ 140737488355328 ∧ (aval e x).rows.length + (aval e y).rows.length ≤ 4611686018427387904 ∧
      K ((e.map (AV.kill (tagOf (tb + d + 1) (aval e x)))).set d (.own (tagOf (tb + d + 1) (aval e x)) z.1 z.2.1 ((aval e x).rows ++ (aval e y).rows))) (s.kill (tagOf (tb + d + 1) (aval e x)))) (mk _) := by
  simp only [xP, pop, oK, List.getD, Array.getD_eq_getD_getElem?]
  cases hz : C.z d with
  | false =>
    cases h : rowTy P t with
    | none => simp [h]
    | some z => obtain ⟨a, b, c⟩ := z; simp [h, hz]
  | true =>
    cases h : rowTy P t with
    | none => simp only [h, hz, if_true, frK, oK, List.getElem?_toArray, List.getElem?_cons_zero, Option.getD_some]; split <;> rfl
    | some z => obtain ⟨a, b, c⟩ := z; simp only [h, hz, if_true, frK, oK, List.getElem?_toArray, List.getElem?_cons_zero, Option.getD_some]; generalize aval e x = q; cases q <;> rfl
theorem p_bs {m2 : At K} {m3 : At Q} {t n : Nat} {parts : Array (Nat × Operand)} {m1 : At (⟨some d, .buildSlice t n parts, type, pos, af, g⟩ : Oper)} : xP P C tb ⟨some d, .buildSlice t n parts, type, pos, af, g⟩ K Q m1 m2 m3 e s =
    oK (rowTy P t) (fun z => oK (zcells P z.1) (fun zc => zc.all D.one = true ∧ n * z.2.1 ≤ 16777216 ∧ bsS (aval e) z.2.1 n parts.toList ∧
        K ((e.map (AV.kill (tb + d + 1))).set d (.own (tb + d + 1) z.1 z.2.1 (bsV (aval e) parts.toList (List.replicate n zc)))) (s.kill (tb + d + 1))) (mk _)) (mk _) := by
  simp only [xP, pop, oK]
  cases h : rowTy P t with
  | none => rfl
  | some z => obtain ⟨a, b, c⟩ := z; simp only; cases zcells P a <;> rfl
theorem p_make {m2 : At K} {m3 : At Q} {t : Nat} {x y : Operand} {m1 : At (⟨some d, .makeSlice t x y, type, pos, af, g⟩ : Oper)} : xP P C tb ⟨some d, .makeSlice t x y, type, pos, af, g⟩ K Q m1 m2 m3 e s =
    oK (rowTy P t) (fun z => oK (zcells P z.1) (fun zc => zc.all D.one = true ∧ (aval e x).isInt ∧ (aval e y).isInt ∧ ((aval e y).int = (aval e x).int ∨ (aval e x).int ≤ (aval e y).int) ∧ 0 ≤ (aval e x).int ∧ (aval e y).int * z.2.2 ≤ 140737488355328 ∧ (aval e y).int ≤ 4611686018427387904 ∧
        K ((e.map (AV.kill (tb + d + 1))).set d (.own (tb + d + 1) z.1 z.2.1 (List.replicate (aval e x).int.toNat zc))) (s.kill (tb + d + 1))) (mk _)) (mk _) := by
  simp only [xP, pop, oK]
  cases h : rowTy P t with
  | none => rfl
  | some z => obtain ⟨a, b, c⟩ := z; simp only; cases zcells P a <;> rfl
/-- A store: into a variable, or into a row. -/
def stK (P : Program) (t : Nat) (x y : AV) (K : List AV → Sto → Prop) (_ : At K) (e : List AV) (s : Sto) : Prop :=
  match x with
  | .ref g off => oK (lt P t) (fun l => oK (s.get g) (fun cells => oK y.cells? (fun vs => g ≠ 0 ∧ okSz P t = true ∧ vs.length = l.2 ∧ off + l.2 ≤ cells.length ∧ vs.all AV.one = true ∧ AV.mencs g e = false ∧ s.mencs g = false ∧ K e (s.upd g (setR cells off vs))) (mk _)) (mk _)) (mk _)
  | .eref g _ sz _ i off => oK (lt P t) (fun l => oK y.dcells (fun vs => g ≠ 0 ∧ s.get g = none ∧ okSz P t = true ∧ vs.length = l.2 ∧ off + l.2 ≤ sz ∧ vs.all D.one = true ∧ K (e.map (AV.upr g sz i off vs)) (s.upr g sz i off vs)) (mk _)) (mk _)
  | _ => False
theorem p_store {m2 : At K} {m3 : At Q} {t : Nat} {x y : Operand} {m1 : At (⟨none, .store t x y, type, pos, af, g⟩ : Oper)} : xP P C tb ⟨none, .store t x y, type, pos, af, g⟩ K Q m1 m2 m3 e s = stK P t (aval e x) (aval e y) K (mk _) e s := by
  simp only [xP, pop, stK]
  cases aval e x with
  | ref g off =>
    simp only [oK]
    cases lt P t with
    | none => rfl
    | some l =>
      obtain ⟨a, n⟩ := l
      simp only
      cases s.get g with
      | none => rfl
      | some c => simp only; cases (aval e y).cells? <;> simp
  | eref g el sz rows i off =>
    simp only [oK]
    cases lt P t with
    | none => rfl
    | some l => obtain ⟨a, n⟩ := l; simp only; cases (aval e y).dcells <;> simp
  | _ => rfl
theorem st_ref {t g off : Nat} {y : AV} {m : At K} : stK P t (.ref g off) y K m e s = oK (lt P t) (fun l => oK (s.get g) (fun cells => oK y.cells? (fun vs => g ≠ 0 ∧ okSz P t = true ∧ vs.length = l.2 ∧ off + l.2 ≤ cells.length ∧ vs.all AV.one = true ∧ AV.mencs g e = false ∧ s.mencs g = false ∧ K e (s.upd g (setR cells off vs))) (mk _)) (mk _)) (mk _) := id rfl
theorem st_eref {t g el sz i off : Nat} {rows : List (List D)} {y : AV} {m : At K} : stK P t (.eref g el sz rows i off) y K m e s = oK (lt P t) (fun l => oK y.dcells (fun vs => g ≠ 0 ∧ s.get g = none ∧ okSz P t = true ∧ vs.length = l.2 ∧ off + l.2 ≤ sz ∧ vs.all D.one = true ∧ K (e.map (AV.upr g sz i off vs)) (s.upr g sz i off vs)) (mk _)) (mk _) := id rfl
end

/-! ### What the walk knows of a call -/
/-- A function of data: P1: how its data are made of a; R: how it ends. -/
def ent {α : Type} (P1 : α → List D) (pre : α → Prop) (R : α → D) (args : List AV) (K : AV → List AV → Sto → Prop) (e : List AV) (s : Sto) : Prop :=
  ∃ a, AV.rds args = some (P1 a) ∧ pre a ∧ (args = (P1 a).map .d ∨ (R a).flat = true) ∧ K (.d (R a)) e s
theorem ent_ok {α : Type} {P : Program} {f : Nat} {P1 : α → List D} {pre : α → Prop} {R : α → D} (h : ∀ a, pre a → PF P f (P1 a) (fun x => x = .ret (R a))) {args : List AV} {K : AV → List AV → Sto → Prop} {Q : Kt} {e : List AV} {s : Sto}
    (he : ent P1 pre R args K e s) : pcall P f args K Q e s := by
  obtain ⟨a, h1, h2, h3, h4⟩ := he
  rcases h3 with rfl | h3
  · exact pcall_d (h a h2) (fun x hx => by cases hx; exact h4) (fun c hc => by cases hc)
  · exact pcall_r (h a h2) h1 (fun x hx => by cases hx; exact ⟨h3, h4⟩) (fun c hc => by cases hc)

theorem AV.rds_d : ∀ ds : List D, AV.rds (ds.map .d) = some ds
  | [] => rfl
  | x :: xs => by simp [AV.rds, AV.rd, AV.rds_d xs]
/-- The walk's own way to say it, at arguments that read as data. -/
theorem ent_iff {α : Type} {P1 : α → List D} {pre : α → Prop} {R : α → D} {K : AV → List AV → Sto → Prop} {e : List AV} {s : Sto} {args : List AV} (a : α) (hinj : ∀ b, P1 b = P1 a → b = a) (hr : AV.rds args = some (P1 a)) :
    ent P1 pre R args K e s = (pre a ∧ (args = (P1 a).map .d ∨ (R a).flat = true) ∧ K (.d (R a)) e s) := by
  apply propext
  constructor
  · rintro ⟨b, h1, h2, h3, h4⟩
    rw [hr] at h1
    obtain rfl := hinj b (Option.some.inj h1).symm
    exact ⟨h2, h3, h4⟩
  · rintro ⟨h2, h3, h4⟩
    exact ⟨a, hr, h2, h3, h4⟩

theorem PF_start {P : Program} {C : CT} {O : Nat → Sch} {f : Nat} {fn : Func} {c : Code} {n : Nat} {rs : Array ResultVar} {ds : List D} {R : End → Prop} (hC : C.ok P) (hm : P.follows .mixedOrders = true) (ho : (fn.body.map (okO O)) = some true) (hf : P.funcs[f]? = some fn) (hc : callable P f = true) (hb : fn.body = some c) (hn : fn.ntmps = n) (hrs : fn.results = rs)
    (h : xW P C O 0 c (xR P rs.toList R (mk _) (mk _)) (mk _) (mk _) (ds.map .d ++ List.replicate (n - ds.length) .any) [(0, [])]) : PF P f ds R :=
  PF_intro hf hc hb hn hrs (pwp_sound hC hm c (by rw [hb] at ho; simpa using ho) h)

def C0 : CT := { f := fun _ _ _ _ _ _ => False, y := noYld }
theorem C0_z {d : Nat} : CT.z C0 d = false := id rfl
theorem C0_ok {P : Program} : C0.ok P := ok_of_f (fun _ _ _ _ _ _ h => h.elim) (fun _ _ _ _ _ _ _ _ _ h => h)

end Go.E

namespace Go.E
open Go Go.RowKit

/-! ### A call walked in place -/
/-- The callers' slots laid aside; and taken up again. -/
def Sto.push (e : List AV) (s : Sto) : Option Sto := (s.get 0).map fun c => s.upd 0 (e ++ c)
def Sto.top (n : Nat) (s : Sto) : List AV := ((s.get 0).getD []).take n
def Sto.pull (n : Nat) (s : Sto) : Sto := s.upd 0 (((s.get 0).getD []).drop n)
def Sto.hidn (s : Sto) : Nat := ((s.get 0).getD []).length

def packA : List AV → AV
  | [x] => x
  | xs => AV.mkTup xs

/-- What follows behind a call that is walked in place. -/
def inlK (P : Program) (n m : Nat) (rs : List ResultVar) (K : AV → List AV → Sto → Prop) (Q : Exit → List AV → Sto → Prop) : Exit → List AV → Sto → Prop
  | .normal, e, s | .ret, e, s => ((s.get 0).isSome = true ∧ s.hidn = n + m) ∧ resAll P e s rs ∧ K (packA (rs.map (resV P e s))) (s.top n) (s.pull n)
  | .panic c, _, s => ((s.get 0).isSome = true ∧ s.hidn = n + m) ∧ Q (.panic c) (s.top n) (s.pull n)
  | _, _, _ => False

theorem take_reps {L : Lay} {w : World} {xs : List AV} {us vs : List Value} {n : Nat} (h : AReps L w xs (us ++ vs)) (hn : us.length = n) : AReps L w (xs.take n) us ∧ AReps L w (xs.drop n) vs := by
  subst hn
  have h1 := AReps.take us.length h
  have h2 := AReps.drop us.length h
  simp at h1 h2
  exact ⟨h1, h2⟩

theorem mem_markObjs {ds : List Deferred} {r : Nat} (h : r ∈ marks ds) : (r, Obj.deferred (some [])) ∈ markObjs ds := List.mem_map.2 ⟨r, h, rfl⟩
theorem rel_pull {W0 : World} {L0 L' : Lay} {e' : List AV} {s' : Sto} {w' : World} {a a' : Act} {n m : Nat} {Lh : List Value} {kp : List (Nat × Obj)} (hr : Rel W0 (L0.with (a.tmps.toList ++ Lh) (L0.kp ++ markObjs a.defers)) L' e' s' w' a') (hl : a.tmps.toList.length = n) (hm : Lh.length = m)
    (hd : ∃ vs, Lh = vs ++ L0.hid ∧ strip a.defers = vs.map undv) (hrd : L0.rd = none ∨ L0.hid ≠ []) (hrk : ∀ l, L0.rd = some l → ∃ r, (l, Obj.loop r) ∈ L0.kp) (hnd : (marks a.defers).Nodup) (hmb : ∀ r ∈ marks a.defers, W0.heap.size ≤ r ∧ ∀ o, (r, o) ∉ L0.kp)
    (h0 : (s'.get 0).isSome = true ∧ s'.hidn = n + m) : Rel W0 L0 (L'.with Lh kp) (s'.top n) (s'.pull n) w' a ∧ strip a'.defers = [] := by
  obtain ⟨h0, h1⟩ := h0
  obtain ⟨c, hc⟩ := Option.isSome_iff_exists.1 h0
  have hobj := (hr.objs 0 c hc).1 rfl
  obtain ⟨vs, hv1, hv2⟩ := hr.hid
  rw [hv1] at hobj
  have hlen := hobj.length
  simp only [Sto.hidn, hc, Option.getD_some] at h1
  have hz : vs = [] := by
    apply List.length_eq_zero_iff.1
    simp only [List.length_append, Lay.with] at hlen
    omega
  subst hz
  rw [List.nil_append] at hobj
  obtain ⟨k1, k2⟩ := take_reps hobj hl
  refine ⟨hr.hide h0 k2 hd ⟨hnd, fun r h => by obtain ⟨⟨o', h1, h3⟩, h2⟩ := hr.kept _ _ (List.mem_append_right _ (mem_markObjs h)); rw [show o' = _ from h3] at h1; exact ⟨h1, h2⟩⟩ hmb (fun b o h => hr.kept _ _ (List.mem_append_left _ h)) hrk (by simpa [Sto.top, hc] using k1) (fun _ => rfl) hrd (fun g => ?_), by simpa using hv2⟩
  unfold Sto.pull
  rw [Sto.get_upd]
  by_cases h : 0 = g
  · subst h; simp [hc]
  · simp [h]

theorem rel_push {W0 : World} {L0 L : Lay} {e : List AV} {s s1 : Sto} {w : World} {a : Act} {args : List AV} {vs : Array Value} {n : Nat} (hr : Rel W0 L0 L e s w a) (hp : s.push e = some s1) (ha : AReps L w args vs.toList) :
    Rel W0 (L0.with (a.tmps.toList ++ L.hid) (L0.kp ++ markObjs a.defers)) (L.with (a.tmps.toList ++ L.hid) []) (args ++ List.replicate (n - args.length) .any) s1 w { tmps := vs ++ Array.replicate (n - vs.size) undef, defers := [] } := by
  unfold Sto.push at hp
  obtain ⟨c, hc, rfl⟩ := Option.map_eq_some_iff.1 hp
  have hobj := (hr.objs 0 c hc).1 rfl
  have hlen := ha.length
  refine hr.hide (L0' := L0.with (a.tmps.toList ++ L.hid) (L0.kp ++ markObjs a.defers)) (a' := { tmps := vs ++ Array.replicate (n - vs.size) undef, defers := [] }) (by simp [hc]) (areps_append hr.slots hobj) ⟨[], rfl, rfl⟩ ⟨by simp [marks], by simp [marks]⟩ (by simp [marks]) (fun b o h => ?_) (fun l h => by cases h) ?_ (fun _ => rfl) (.inl rfl) (fun g => ?_)
  · rcases List.mem_append.1 h with h | h
    · exact hr.kept b o h
    · obtain ⟨r, h1, h2⟩ := List.mem_map.1 h
      cases h2
      exact ⟨⟨_, (hr.mks.2 _ h1).1, rfl⟩, (hr.mks.2 _ h1).2⟩
  · simp only [Array.toList_append, Array.toList_replicate]
    refine areps_append ha (AReps.of_get ?_ fun i d u h1 h2 => ?_)
    · simp only [List.length_replicate]; rw [← hlen]; simp
    · have := List.mem_of_getElem? h1
      rw [List.eq_of_mem_replicate this]; trivial
  · rw [Sto.get_upd]
    by_cases h : 0 = g
    · subst h; simp [hc]
    · simp [h]

theorem packA_rep {L : Lay} {w : World} {xs : List AV} {us : List Value} (h : AReps L w xs us) : ARep L w (packA xs) (if h : us.toArray.size = 1 then us.toArray[0] else .tuple us.toArray) := by
  have hl := h.length
  match xs, us, hl with
  | [], [], _ => exact AV.mkTup_rep (us := #[]) h
  | [x], [u], _ => obtain ⟨u', ut, e, k1, _⟩ := h; simp at e; rw [← e.1] at k1; simpa [packA] using k1
  | x1 :: x2 :: xr, u1 :: u2 :: ur, _ => rw [dif_neg (by simp)]; exact AV.mkTup_rep (us := (u1 :: u2 :: ur).toArray) (by simpa using h)

theorem hid_len {W0 : World} {L0 L : Lay} {e : List AV} {s s1 : Sto} {w : World} {a : Act} (hr : Rel W0 L0 L e s w a) (hp : s.push e = some s1) : L.hid.length = s.hidn := by
  unfold Sto.push at hp
  obtain ⟨c, hc, rfl⟩ := Option.map_eq_some_iff.1 hp
  rw [((hr.objs 0 c hc).1 rfl).length]; simp [Sto.hidn, hc]

theorem pcall_inl {P : Program} {f : Nat} {fn : Func} {c : Code} {n : Nat} {rs : Array ResultVar} {args : List AV} {K : AV → List AV → Sto → Prop} {Q : Exit → List AV → Sto → Prop} {e : List AV} {s s1 : Sto}
    (hf : P.funcs[f]? = some fn) (hc : callable P f = true) (hb : fn.body = some c) (hn : fn.ntmps = n) (hrs : fn.results = rs) (hp : s.push e = some s1)
    (h : psem P c (inlK P e.length s.hidn rs.toList K Q) (args ++ List.replicate (n - args.length) .any) s1) : pcall P f args K Q e s := by
  refine ⟨hc, fun W0 L0 L w a vs hr ha => (callsFW (r := none) (n := 0)).1 (callsIn_of_wp_marks hf hb trivial ?_)⟩
  have hl := hr.slots.length
  have hm := hid_len hr hp
  have hr1 := rel_push (n := fn.ntmps) hr hp ha
  rw [hn] at hr1
  rw [hn]
  refine Code.wpIn_mono ?_ (h _ _ _ _ _ hr1)
  rintro x a' w' ⟨L', e', s', hr', hq⟩
  have fin : (((s'.get 0).isSome = true ∧ s'.hidn = e.length + s.hidn) ∧ resAll P e' s' rs.toList ∧ K (packA (rs.toList.map (resV P e' s'))) (s'.top e.length) (s'.pull e.length)) →
      LeavesInM (FW none) 0 P fn a'.tmps (fun en w' => match en with
        | .returned v => ∃ L' e' s' r, Rel W0 L0 L' e' s' w' a ∧ ARep L' w' r v ∧ K r e' s'
        | .panicked c => ∃ L' e' s', Rel W0 L0 L' e' s' w' a ∧ Q (.panic c) e' s'
        | .outgrown => False) a'.defers .returning w' := by
    rintro ⟨h0, h1, h2⟩
    have hst := (rel_pull (kp := []) hr' hl hm hr.hid hr.rd hr.rdk hr.mks.1 hr.mkb h0).2
    refine leave_marks (by simp) a'.defers w' hst hr'.mks.1 (fun r h => (hr'.mks.2 r h).1) fun w'' hsh => ?_
    have hr2 := hr'.shut hst hsh
    obtain ⟨us, g1, g2⟩ := results_run hr2 (fun r => match r with | .tmp t => pure (a'.tmps.getD t undef) | .cell x t => do loadVar t (← asAddr (a'.tmps.getD x undef))) (fun t => rfl) (fun x t => rfl) rs.toList h1
    obtain ⟨k1, k2⟩ := rel_pull (kp := []) hr2 hl hm hr.hid hr.rd hr.rdk hr.mks.1 hr.mkb h0
    refine ⟨if h : us.toArray.size = 1 then us.toArray[0] else .tuple us.toArray, ?_, _, _, _, _, k1, ARep.with _ _ (packA_rep g2), h2⟩
    unfold results
    rw [hrs, Array.mapM_eq_mapM_toList]
    simp only [Sem.run_bind, Sem.run_map]
    erw [g1]
    rfl
  cases x with
  | normal => exact fin hq
  | ret => exact fin hq
  | panic ch =>
    have hst := (rel_pull (kp := []) hr' hl hm hr.hid hr.rd hr.rdk hr.mks.1 hr.mkb hq.1).2
    refine leave_marks (by simp) a'.defers w' hst hr'.mks.1 (fun r h => (hr'.mks.2 r h).1) fun w'' hsh => ?_
    exact ⟨_, _, _, (rel_pull (kp := []) (hr'.shut hst hsh) hl hm hr.hid hr.rd hr.rdk hr.mks.1 hr.mkb hq.1).1, hq.2⟩
  | exit i => exact hq.elim
  | goto l => exact hq.elim
  | outgrown => exact hq.elim

end Go.E

namespace Go.E
open Go Go.RowKit

def inlE (P : Program) (C : CT) (O : Nat → Sch) (tb f : Nat) : List AV → (AV → List AV → Sto → Prop) → Kt → List AV → Sto → Prop := fun args K Q e s =>
  callable P f = true ∧ ∃ fn c s1, P.funcs[f]? = some fn ∧ fn.body = some c ∧ s.push e = some s1 ∧ pwp P C O tb c (inlK P e.length s.hidn fn.results.toList K Q) (args ++ List.replicate (fn.ntmps - args.length) .any) s1
theorem inlE_ok {P : Program} {C : CT} {O : Nat → Sch} {tb f : Nat} (hC : C.ok P) (hm : P.follows .mixedOrders = true) (ho : (P.funcs[f]?.bind (·.body)).map (okO O) = some true) {args : List AV} {K : AV → List AV → Sto → Prop} {Q : Kt} {e : List AV} {s : Sto} (h : inlE P C O tb f args K Q e s) : pcall P f args K Q e s := by
  obtain ⟨hc, fn, c, s1, h1, h2, h3, h4⟩ := h
  exact pcall_inl h1 hc h2 rfl rfl h3 (pwp_sound hC hm c (by rw [h1] at ho; simpa [h2] using ho) h4)

def xI (P : Program) (n m : Nat) (rs : List ResultVar) (K : AV → List AV → Sto → Prop) (Q : Kt) (_ : At rs) (_ : At K) (_ : At Q) : Kt := fun x e s => inlK P n m rs K Q x e s
section
variable {P : Program} {n m : Nat} {rs : List ResultVar} {K : AV → List AV → Sto → Prop} {Q : Kt} {i : At rs} {j : At K} {k : At Q} {e : List AV} {s : Sto}
theorem i_n : xI P n m rs K Q i j k .normal e s = (((s.get 0).isSome = true ∧ s.hidn = n + m) ∧ resAll P e s rs ∧ K (packA (rs.map (resV P e s))) (s.top n) (s.pull n)) := id rfl
theorem i_r : xI P n m rs K Q i j k .ret e s = (((s.get 0).isSome = true ∧ s.hidn = n + m) ∧ resAll P e s rs ∧ K (packA (rs.map (resV P e s))) (s.top n) (s.pull n)) := id rfl
theorem i_p {c : List PanicEntry} : xI P n m rs K Q i j k (.panic c) e s = (((s.get 0).isSome = true ∧ s.hidn = n + m) ∧ Q (.panic c) (s.top n) (s.pull n)) := id rfl
end

theorem qd_I {P : Program} {l : List Oper} {n m' : Nat} {rs : List ResultVar} {K : AV → List AV → Sto → Prop} {Q : Kt} {i : At rs} {j : At K} {k : At Q} {m : At l} {k'} : xQd l (xI P n m' rs K Q i j k) m k' = True := propext ⟨fun _ => trivial, fun _ _ _ _ _ _ h => h⟩

theorem xinl {P : Program} {C C' : CT} {O : Nat → Sch} {tb f : Nat} {fn : Func} {c : Code} {n : Nat} {rs : Array ResultVar} (hE : C f = inlE P C' O tb f) (hc : callable P f = true) (hf : P.funcs[f]? = some fn) (hb : fn.body = some c) (hn : fn.ntmps = n) (hrs : fn.results = rs)
    {args : List AV} {K : AV → List AV → Sto → Prop} {Q : Kt} {i : At K} {j : At Q} {e : List AV} {s : Sto} :
    xC C f args K Q i j e s = oK (s.push e) (fun s1 => xW P C' O tb c (xI P e.length s.hidn rs.toList K Q (mk _) (mk _) (mk _)) (mk _) (mk _) (args ++ List.replicate (n - args.length) .any) s1) (mk _) := by
  subst hn; subst hrs
  unfold xC
  rw [hE]
  apply propext
  constructor
  · rintro ⟨_, fn', c', s1, h1, h2, h3, h4⟩
    rw [hf] at h1; cases h1
    rw [hb] at h2; cases h2
    rw [h3]
    exact h4
  · intro h
    cases hs : s.push e with
    | none => rw [hs] at h; exact h.elim
    | some s1 => rw [hs] at h; exact ⟨hc, fn, c, s1, hf, hb, hs, h⟩

/-- A panic with a value that is known. -/
def panK (x : AV) (Q : Kt) (_ : At Q) (e : List AV) (s : Sto) : Prop :=
  match x with | .d (.iface t y) => oK y.val? (fun v => Q (.panic [{ v := .iface t v, recovered := false }]) e s) (mk _) | _ => False
theorem p_panic {P : Program} {C : CT} {tb : Nat} {d : Option Nat} {type : Nat} {pos : String} {af : Array Edge} {g : Option (Nat × Bool)} {K : List AV → Sto → Prop} {Q : Kt} {x : Operand} {m1 : At (⟨d, .panic x, type, pos, af, g⟩ : Oper)} {m2 : At K} {m3 : At Q} {e : List AV} {s : Sto} :
    xP P C tb ⟨d, .panic x, type, pos, af, g⟩ K Q m1 m2 m3 e s = panK (aval e x) Q (mk _) e s := by
  simp only [xP, pop, panK, oK]
  split <;> simp_all
  split <;> simp_all
theorem pan_i {t : Nat} {y : D} {Q : Kt} {m : At Q} {e : List AV} {s : Sto} : panK (.d (.iface t y)) Q m e s = oK y.val? (fun v => Q (.panic [{ v := .iface t v, recovered := false }]) e s) (mk _) := id rfl
end Go.E

namespace Go.E
open Go Go.RowKit

/-! ### Loops -/
def setAll : List AV → List (Nat × AV) → List AV
  | e, [] => e
  | e, (i, x) :: r => setAll (e.set i x) r
def wk : List AV → List AV → Prop
  | [], [] => True
  | x :: xs, y :: ys => (y = .any ∨ x = y ∨ (x.isNilS ∧ y.isNoRows)) ∧ wk xs ys
  | _, _ => False
theorem wk_Wk : ∀ {xs ys : List AV}, wk xs ys → Wk xs ys
  | [], [], _ => rfl
  | x :: xs, y :: ys, ⟨h1, h2⟩ => ⟨y, ys, rfl, h1, wk_Wk h2⟩
  | [], _ :: _, h => h.elim
  | _ :: _, [], h => h.elim
def wkS : Sto → Sto → Prop
  | [], [] => True
  | (h, c) :: r, (h', c') :: r' => h = h' ∧ wk c c' ∧ wkS r r'
  | _, _ => False
theorem wkS_get : ∀ {s s' : Sto}, wkS s s' → ∀ g c, s'.get g = some c → ∃ c0, s.get g = some c0 ∧ Wk c0 c
  | [], [], _, g, c, hc => by simp [Sto.get] at hc
  | (h, x) :: r, (h', y) :: r', ⟨e, h1, h2⟩, g, c, hc => by
    subst e
    simp only [Sto.get] at hc ⊢
    by_cases hg : h = g
    · rw [if_pos hg] at hc ⊢; cases hc; exact ⟨x, rfl, wk_Wk h1⟩
    · rw [if_neg hg] at hc ⊢; exact wkS_get h2 g c hc
  | [], _ :: _, h, _, _, _ => h.elim
  | _ :: _, [], h, _, _, _ => h.elim

/-- A loop, whose state is told by x: which slots turn with it, and the store. -/
theorem loop_go {P : Program} {C : CT} {O : Nat → Sch} {tb : Nat} (hC : C.ok P) (hm : P.follows .mixedOrders = true) {c : Code} (ho : okO O c = true) {Q : Kt} {i : At c} {j : At Q} {e : List AV} {s : Sto} {σ : Type} (E : σ → List (Nat × AV)) (S : σ → Sto) (I : σ → Prop) (μ : σ → Nat) (nx : σ → σ) (x0 : σ)
    (h0 : I x0) (hw : wk e (setAll e (E x0)) ∧ wkS s (S x0))
    (round : ∀ x, I x → xW P C O tb c (xS (fun e' s' => (I (nx x) ∧ μ (nx x) < μ x) ∧ wk e' (setAll e (E (nx x))) ∧ wkS s' (S (nx x))) Q (mk _) (mk _)) (mk _) (mk _) (setAll e (E x)) (S x)) : xL P c Q i j e s :=
  fun W0 L0 L w a hr => by
  refine wpIn_loop_ghost (fun n a w => ∃ x, I x ∧ μ x = n ∧ ∃ L, Rel W0 L0 L (setAll e (E x)) (S x) w a) (μ x0) ⟨x0, h0, rfl, L, hr.weaken (wk_Wk hw.1) (wkS_get hw.2)⟩ ?_
  rintro n a w ⟨x, hx, rfl, L, hr⟩
  refine Code.wpIn_mono (lift_seq fun L e' s' a w h1 h2 => ?_) (pwp_sound hC hm c ho (round x hx) W0 L0 L w a hr)
  exact ⟨μ (nx x), h2.1.2, nx x, h2.1.1, rfl, L, h1.weaken (wk_Wk h2.2.1) (wkS_get h2.2.2)⟩
theorem row_at {α : Type} [Inhabited α] {l : List α} {f : α → List D} {i : Nat} (h : i < l.length) : (l.map f).getD i [] = f (l.getD i default) := by
  simp [List.getD, List.getElem?_map, List.getElem?_eq_getElem h]
theorem inj_map {α : Type} {f : α → List D} {l l' : List α} (h : ∀ a b, f a = f b → a = b) : (l.map f = l'.map f) = (l = l') := by
  apply propext
  constructor
  · intro e
    exact (List.map_inj_right h).1 e
  · rintro rfl; rfl
theorem tdiv_e {a b : Int} (h : 0 ≤ a) : a.tdiv b = a / b := Int.tdiv_eq_ediv_of_nonneg h
theorem tmod_e {a b : Int} (h : 0 ≤ a) : a.tmod b = a % b := Int.tmod_eq_emod_of_nonneg h
theorem nat_to {n : Nat} : ((n : Int)).toNat = n := Int.toNat_natCast n
theorem len_map {α β : Type} {l : List α} {f : α → β} : (l.map f).length = l.length := List.length_map ..
theorem cast_succ {i : Nat} : ((i + 1 : Nat) : Int) = (i : Int) + 1 := rfl
theorem cast_zero : ((0 : Nat) : Int) = 0 := rfl
end Go.E

namespace Go.E
open Go Go.RowKit

/-! ### A function with one deferred call, that may recover -/
def datOf : Nat → Value → D
  | 0, v => .v v
  | n + 1, .iface t y => .iface t (datOf n y)
  | n + 1, .agg us => .agg (us.toList.map (datOf n))
  | _ + 1, v => .v v
theorem datOf_rep {m : Mem} : ∀ (n : Nat) (v : Value), DRep m (datOf n v) v
  | 0, v => rfl
  | n + 1, v => by
    unfold datOf
    split
    · rename_i h; cases h
    · rename_i h; cases h; exact ⟨_, rfl, datOf_rep _ _⟩
    · rename_i k us h
      cases h
      refine ⟨us, rfl, DReps.of_get (by simp) fun i d x h1 h2 => ?_⟩
      rw [List.getElem?_map, h2] at h1
      simp at h1; subst h1
      exact datOf_rep _ _
    · exact rfl

section
variable {P : Program}
theorem wpOpsS_of_list {ops : Array Oper} {Q1 : Exit → Act → World → Prop} {Q : Exit → Act → List Frame → World → Prop} (hO : ∀ a w, ¬ Q1 .outgrown a w) (cs : List Frame) (hQ : ∀ e a w, Q1 e a w → Q e a cs w) : ∀ (l : List Oper) (k : Nat) (a : Act) (w : World), (∀ j, l[j]? = ops[k + j]?) →
    wpList P ops Q1 l a w → wpOpsS P ops Q (List.range' k l.length) a cs w
  | [], k, a, w, _, h => hQ _ _ _ h
  | o :: l, k, a, w, hl, h => by
    have h0 : ops[k]? = some o := by simpa using (hl 0).symm
    have hl' : ∀ j, l[j]? = ops[k + 1 + j]? := fun j => by have := hl (j + 1); simpa [Nat.add_assoc, Nat.add_comm 1 j] using this
    have ih := fun a w h => wpOpsS_of_list hO cs hQ l (k + 1) a w hl' h
    rw [show (o :: l).length = l.length + 1 from rfl, List.range'_succ]
    unfold wpOpsS
    simp only [h0]
    unfold wpList at h
    by_cases hw : Region.wanted o (yielded ops a.tmps) = true
    · rw [if_pos hw] at h ⊢
      rcases h with h | ⟨_, _, _, h⟩
      · unfold Oper.wp at h
        generalize hr : (execOp a.eval o).run P w = r at h ⊢
        cases r with
        | ok n w' =>
          cases n with
          | value v => exact ih _ _ h
          | skip => exact ih _ _ h
          | defer d => exact ih _ _ h
          | enter f args =>
            refine Calls.mono h fun en w'' hen => ?_
            cases en with
            | returned v => exact ih _ _ hen
            | panicked c => exact hQ _ _ _ hen
            | outgrown => obtain ⟨_, _, hen⟩ := hen; exact (hO _ _ hen).elim
          | row r args => intro b cs'; obtain ⟨v, w'', h1, h2⟩ := h b cs'; exact ⟨v, w'', ih _ _ h1, h2⟩
          | _ => exact h.elim
        | halt x w' =>
          cases x with
          | panic v => exact hQ _ _ _ h
          | _ => exact h.elim
      · exact (hO _ _ h).elim
    · rw [if_neg hw] at h ⊢
      exact ih _ _ h

/-- Operations in the text's order, none under a guard. -/
def popsP (P : Program) (C : CT) (tb : Nat) : List Oper → (Exit → List AV → Sto → Prop) → List AV → Sto → Prop
  | [], Q, e, s => Q .normal e s
  | o :: r, Q, e, s => o.guard = none ∧ pop P C tb o (popsP P C tb r Q) Q e s
theorem popsP_sound {C : CT} {tb : Nat} (hC : C.okf P) (hY : C.noY) {W0 : World} {L0 : Lay} {ops : List Oper} {Q : Exit → List AV → Sto → Prop} : ∀ (l : List Oper) {L : Lay} {e : List AV} {s : Sto} {w : World} {a : Act}, popsP P C tb l Q e s → Rel W0 L0 L e s w a →
    wpList P ops.toArray (lift W0 L0 Q) l a w
  | [], L, e, s, w, a, h, hr => ⟨L, e, s, hr, h⟩
  | o :: rest, L, e, s, w, a, ⟨hg, h⟩, hr => wpList_step fun K' hK' => by
    rw [if_pos (by simp [Region.wanted, hg])]
    exact Oper.wp_mono (fun a w ⟨L, e, s, h1, h2⟩ => hK' a w (popsP_sound hC hY rest h2 h1)) (pop_sound hC hY o h hr)
def dclo (fd : Nat) : Option (List AV) → Option (List AV)
  | some [.clo (.func f) a b] => if f = fd then some (a ++ b) else none
  | _ => none
/-- The deferred function's text: it recovers first. -/
structure DText where
  fd : Nat
  nt : Nat
  k : Nat
  l : List Oper
  l' : List Oper
  rest : Code
  rsd : List ResultVar
  /-- The slots that matter behind a panic. -/
  m : List Bool
/-- Only some slots. -/
def maskB : List Bool → List AV → List AV
  | _, [] => []
  | [], _ :: xs => .any :: maskB [] xs
  | true :: m, x :: xs => x :: maskB m xs
  | false :: m, _ :: xs => .any :: maskB m xs
theorem maskB_wk : ∀ (m : List Bool) (e : List AV), wk e (maskB m e)
  | _, [] => by simp [maskB, wk]
  | [], _ :: xs => ⟨.inl rfl, maskB_wk [] xs⟩
  | true :: m, x :: xs => ⟨.inr (.inl rfl), maskB_wk m xs⟩
  | false :: m, _ :: xs => ⟨.inl rfl, maskB_wk m xs⟩
theorem maskB_set : ∀ (m : List Bool) (e : List AV) (d : Nat), m.getD d false = false → maskB m (e.set d .any) = maskB m e
  | _, [], _, _ => by simp
  | [], _ :: xs, 0, _ => rfl
  | [], x :: xs, d + 1, _ => by simp [maskB, maskB_set [] xs d (by simp)]
  | true :: m, x :: xs, 0, h => by simp at h
  | false :: m, _ :: xs, 0, _ => rfl
  | true :: m, x :: xs, d + 1, h => by simp [maskB, maskB_set m xs d (by simpa using h)]
  | false :: m, x :: xs, d + 1, h => by simp [maskB, maskB_set m xs d (by simpa using h)]
theorem wkS_refl : ∀ s : Sto, wkS s s
  | [] => trivial
  | (_, c) :: r => ⟨rfl, wk_refl c, wkS_refl r⟩
 where wk_refl : ∀ c : List AV, wk c c
  | [] => trivial
  | _ :: c => ⟨.inr (.inl rfl), wk_refl c⟩
def dgo (P : Program) (C : CT) (O : Nat → Sch) (tb : Nat) (T : DText) (rs : List ResultVar) (R : End → Prop) (x : AV) (e : List AV) (s : Sto) : Prop :=
  match dclo T.fd (s.get 0) with
  | some args => popsP P C tb T.l' (seqK (fun e' s' => pwp P C O tb T.rest (inlK P e.length 0 T.rsd (fun _ e s => outK P rs R e s) (fun _ _ _ => False)) e' s') (inlK P e.length 0 T.rsd (fun _ e s => outK P rs R e s) (fun _ _ _ => False)))
      ((args ++ List.replicate (T.nt - args.length) AV.any).set T.k x) (s.upd 0 e)
  | none => False
def dK (P : Program) (C : CT) (O : Nat → Sch) (tb : Nat) (T : DText) (rs : List ResultVar) (R : End → Prop) : Exit → List AV → Sto → Prop
  | .normal, e, s | .ret, e, s => if (s.get 0).any List.isEmpty = true then outK P rs R e s else dgo P C O tb T rs R (.d (.v .nilIface)) e s
  | .panic c, e, s => match c with | [p] => p.recovered = false ∧ p.goexit = false ∧ dgo P C O tb T rs R (.d (datOf 9 p.v)) (maskB T.m e) s | _ => False
  | _, _, _ => False

/-- The post of a deferred function's text, marks and all. -/
def postSM (P : Program) (fn : Func) (c₀ : Frame) (cs : List Frame) (R : Ending → FrameMode → World → Prop) : Exit → Act → List Frame → World → Prop
  | .normal, a, cs', w | .ret, a, cs', w =>
    (strip a.defers = [] ∧ (marks a.defers).Nodup ∧ ∀ r ∈ marks a.defers, w.heap[r]? = some (.deferred (some []))) ∧ ∃ u', cs' = { c₀ with mode := u' } :: cs ∧ ∀ w'', Shut (marks a.defers) w w'' → ∃ v, (results fn a.tmps).run P w'' = .ok v w'' ∧ R (.returned v) u' w''
  | _, _, _, _ => False
theorem callsDIn_of_wpSM {f : FuncId} {fn : Func} {c : Code} {args : Array Value} {u : FrameMode} {w : World} {R : Ending → FrameMode → World → Prop} {n : Nat}
    (hf : P.funcs[f]? = some fn) (hb : fn.body = some c)
    (h : ∀ (c₀ : Frame) (cs : List Frame), c₀.mode = u →
      c.wpS P (postSM P fn c₀ cs R) { tmps := args ++ Array.replicate (fn.ntmps - args.size) undef, defers := [] } (c₀ :: cs) w) :
    CallsDIn (FW none) n P f args u w R := by
  refine ⟨trivial, fun c₀ cs hu _ => ?_⟩
  let b : Frame := { (default : Frame) with fn := f, kind := .deferred }
  have henter : Frame.enter P f args .deferred = b.at { tmps := args ++ Array.replicate (fn.ntmps - args.size) undef, defers := [] } [.code c] := by
    simp [Frame.enter, Frame.at, hf, hb, b]
  obtain ⟨e, a', cs', w', hq, harr⟩ := h c₀ cs hu b [] rfl rfl
  rw [← henter] at harr
  cases e with
  | normal =>
    obtain ⟨⟨h1, h2, h3⟩, u', rfl, hR⟩ := hq
    obtain ⟨w'', hs, hst⟩ := marks_steps (P := P) (cs := { c₀ with mode := u' } :: cs) a'.defers { b.at a' [] with mode := .returning } w' (by simp) rfl h1 h2 h3
    obtain ⟨v, hv, hR⟩ := hR w'' hs
    exact ⟨.returned v, u', w'', _, hR, comesIn_wide.2 (Steps.trans harr (Steps.trans (.one step_end) hst)), rfl, rfl, rfl, rfl, fn, hf, hv⟩
  | ret =>
    obtain ⟨⟨h1, h2, h3⟩, u', rfl, hR⟩ := hq
    obtain ⟨todo, hs0⟩ := harr
    obtain ⟨w'', hs, hst⟩ := marks_steps (P := P) (cs := { c₀ with mode := u' } :: cs) a'.defers { b.at a' todo with mode := .returning } w' (by simp) rfl h1 h2 h3
    obtain ⟨v, hv, hR⟩ := hR w'' hs
    exact ⟨.returned v, u', w'', _, hR, comesIn_wide.2 (Steps.trans hs0 hst), rfl, rfl, rfl, rfl, fn, hf, hv⟩
  | panic chain => exact hq.elim
  | exit id => exact hq.elim
  | goto l => exact hq.elim
  | outgrown => exact hq.elim

/-- The deferred call, walked. -/
theorem dgo_sound {C : CT} {O : Nat → Sch} {tb : Nat} (hC : C.ok P) (hY : C.noY) (hm : P.follows .mixedOrders = true) {T : DText} {fnd : Func} {id : Nat} {F : Nat → Prop} {w w' : World} {L : Lay} {e : List AV} {s : Sto} {a : Act} {fn : Func} {rs : Array ResultVar} {R : End → Prop} {o0 : Oper}
    (hfd : P.funcs[T.fd]? = some fnd) (hcd : callable P T.fd = true) (hbd : fnd.body = some (.seq (.region id T.l.toArray false) T.rest)) (hnd : fnd.ntmps = T.nt) (hrd : fnd.results.toList = T.rsd) (hl : T.l = o0 :: T.l') (hk : o0.dst = some T.k) (hg : o0.guard = none) (hx : ∀ ρ w, (execOp ρ o0).run P w = .ok .recover w) (hO : okO O T.rest = true)
    (hr : Rel w (lay0 F w) L e s w' a) (hrs : fn.results = rs) (x : AV) {u u1 : FrameMode} {vx : Value} (hu : u ≠ .run) (hvx : ∀ (c₀ : Frame) (cs : List Frame), c₀.mode = u → ∃ cs1, (match recoverD (c₀ :: cs) with | some (v, cs') => v = vx ∧ cs' = cs1 | none => vx = .nilIface ∧ c₀ :: cs = cs1) ∧ cs1 = { c₀ with mode := u1 } :: cs)
    (hset : settle u1 = .returning) (hrx : ∀ m : Mem, ∃ d, x = .d d ∧ DRep m d vx) (h : dgo P C O tb T rs.toList R x e s) {R' : Ending → World → Prop} (hR' : ∀ v w'', (Below w.heap.size w w'' ∧ ∃ d, R (.ret d) ∧ DRep (look (fun b => F b ∨ w.heap.size ≤ b) w'') d v) → R' (.returned v) w'') : LeavesInM (FW none) 0 P fn a.tmps R' a.defers u w' := by
  unfold dgo at h
  split at h
  case h_2 => exact h.elim
  rename_i args hargs
  unfold dclo at hargs
  split at hargs
  case h_2 => cases hargs
  rename_i f a1 b1 hs0
  split at hargs
  case isFalse => cases hargs
  rename_i hff
  cases hargs
  have hobj := (hr.objs 0 _ hs0).1 rfl
  obtain ⟨vs, hv1, hv2⟩ := hr.hid
  have hv1 : L.hid = vs := by rw [hv1]; exact List.append_nil _
  rw [hv1] at hobj
  obtain ⟨v, vt, rfl, ⟨us, ws, rfl, k1, k2⟩, hvt⟩ := hobj
  obtain rfl : vt = [] := hvt
  subst hff
  obtain ⟨m1, m2, hds, hm1, hm2⟩ := strip_one (d0 := { target := .fn (.func T.fd) ws, args := us }) (ds := a.defers) (by rw [hv2]; rfl)
  have hmks : marks a.defers = marks m1 ++ marks m2 := by rw [hds, marks_app]; rfl
  have hnd2 := hr.mks.1
  rw [hmks] at hnd2
  have hnd3 := List.nodup_append.1 hnd2
  rw [hds]
  refine leave_app hu _ m1 w' hm1 hnd3.1 (fun r h' => (hr.mks.2 r (by rw [hmks]; exact List.mem_append_left _ h')).1) fun w1 hsh => ?_
  have hr0 : Rel w (lay0 F w) L e s w1 { tmps := a.tmps, defers := { target := .fn (.func T.fd) ws, args := us } :: m2 } :=
    hr.shutP hsh (fun b hb => by rw [hmks]; exact List.mem_append_left _ hb) rfl (by
      have e1 : strip ({ target := .fn (.func T.fd) ws, args := us } :: m2) = { target := .fn (.func T.fd) ws, args := us } :: strip m2 := by simp [strip, isMark]
      rw [e1, hm2, hv2]; rfl) (fun r h' => ⟨by rw [hmks]; exact List.mem_append_right _ h', fun h'' => hnd3.2.2 r h'' r h' rfl⟩) hnd3.2.1
  clear hr
  have hr := hr0
  refine ⟨hu, .inr ⟨FW_depth, .func T.fd, ws, T.fd, us ++ ws, rfl, by simp only [invoke]; exact callable_run hcd _ _, fun _ _ => trivial, ?_⟩⟩
  refine callsDIn_of_wpSM hfd hbd fun c₀ cs hc => ?_
  refine wpS_seq (wpS_region ?_)
  have hlr : AReps L w1 (a1 ++ b1) (us ++ ws).toList := by
    have hobj := (hr.objs 0 _ hs0).1 rfl
    rw [hv1] at hobj
    obtain ⟨v', vt', e', ⟨us', ws', e2, k1', k2'⟩, _⟩ := hobj
    obtain ⟨rfl, _⟩ := List.cons.inj e'
    cases e2
    rw [Array.toList_append]; exact areps_append k1' k2'
  have hlen := hlr.length
  have hr1 := hr.hide (L0' := (lay0 F w).with (a.tmps.toList ++ []) ([] ++ markObjs m2)) (a' := { tmps := (us ++ ws) ++ Array.replicate (fnd.ntmps - (us ++ ws).size) undef, defers := [] }) (s' := s.upd 0 e) (c := e) (h := a.tmps.toList) (e' := (a1 ++ b1) ++ List.replicate (fnd.ntmps - (a1 ++ b1).length) .any) (kp := []) (by simp [hs0]) hr.slots ⟨[], by show _ = _ ++ (_ ++ _); simp, rfl⟩
    ⟨by simp [marks], by simp [marks]⟩ (by simp [marks]) (fun b o hb => by
      rcases List.mem_append.1 hb with hb | hb
      · cases hb
      · obtain ⟨r, h1, h2⟩ := List.mem_map.1 hb
        cases h2
        exact ⟨⟨_, (hr.mks.2 _ h1).1, rfl⟩, (hr.mks.2 _ h1).2⟩) (fun l hb => by cases hb)
    (by
      rw [Array.toList_append, Array.toList_replicate]
      refine areps_append hlr (AReps.of_get ?_ fun i d u h1 h2 => ?_)
      · simp only [List.length_replicate]; rw [← hlen]; simp
      · have := List.mem_of_getElem? h1
        rw [List.eq_of_mem_replicate this]; trivial) (fun _ => rfl) (.inl rfl) (fun g => by
      rw [Sto.get_upd]
      by_cases h : 0 = g
      · subst h; simp [hs0]
      · simp [h])
  obtain ⟨dx, rfl, hdx⟩ := hrx ((L.with a.tmps.toList []).mem w1)
  have hr2 := hr1.put (some T.k) (x := .d dx) (u := vx) hdx
  obtain ⟨cs1, hcs1, hcs2⟩ := hvx c₀ cs hc
  let R2 : Ending → FrameMode → World → Prop := fun en u' w' => match en, u', w' with
        | .returned _, u', w' => LeavesInM (FW none) 0 P fn a.tmps R' m2 (settle u') w'
        | .panicked chain, u', w' => LeavesInM (FW none) 0 P fn a.tmps R' m2 (raised u' chain) w'
        | .outgrown, _, w' => R' .outgrown w'
  have hpost : ∀ (x' : Exit) (a' : Act) (w'' : World), lift w ((lay0 F w).with (a.tmps.toList ++ []) ([] ++ markObjs m2)) (inlK P e.length 0 T.rsd (fun _ e s => outK P rs.toList R e s) (fun _ _ _ => False)) x' a' w'' →
      postSM P fnd c₀ cs R2 x' a' cs1 w'' := by
    rintro x' a' w'' ⟨L', e', s', hr', hq⟩
    have pull : ∀ {w3 : World} {L3 : Lay} {e3 : List AV} {s3 : Sto} {a3 : Act}, Rel w ((lay0 F w).with (a.tmps.toList ++ []) ([] ++ markObjs m2)) L3 e3 s3 w3 a3 → (s3.get 0).isSome = true ∧ s3.hidn = e.length + 0 → Rel w (lay0 F w) (L3.with [] []) (s3.top e.length) (s3.pull e.length) w3 { tmps := a.tmps, defers := m2 } ∧ strip a3.defers = [] := fun hr3 h0 =>
      rel_pull (L0 := lay0 F w) (a := { tmps := a.tmps, defers := m2 }) (Lh := []) (kp := []) hr3 hr.slots.length rfl ⟨[], rfl, hm2⟩ (.inl rfl) (fun l hb => by cases hb) hnd3.2.1 (fun r hb => ⟨(hr.mkb r hb).1, fun o ho => by cases ho⟩) h0
    have fin : (((s'.get 0).isSome = true ∧ s'.hidn = e.length + 0) ∧ resAll P e' s' T.rsd ∧ outK P rs.toList R (s'.top e.length) (s'.pull e.length)) →
        (strip a'.defers = [] ∧ (marks a'.defers).Nodup ∧ ∀ r ∈ marks a'.defers, w''.heap[r]? = some (.deferred (some []))) ∧ ∃ u', cs1 = { c₀ with mode := u' } :: cs ∧ ∀ w3, Shut (marks a'.defers) w'' w3 → ∃ v, (results fnd a'.tmps).run P w3 = .ok v w3 ∧ R2 (.returned v) u' w3 := by
      rintro ⟨h0, h1, h2⟩
      have hst := (pull hr' h0).2
      refine ⟨⟨hst, hr'.mks.1, fun r h => (hr'.mks.2 r h).1⟩, u1, hcs2, fun w3 hsh3 => ?_⟩
      have hr3 := hr'.shut hst hsh3
      obtain ⟨us', g1, g2⟩ := results_run hr3 (fun r => match r with | .tmp t => pure (a'.tmps.getD t undef) | .cell x t => do loadVar t (← asAddr (a'.tmps.getD x undef))) (fun t => rfl) (fun x t => rfl) T.rsd h1
      have q1 := (pull hr3 h0).1
      refine ⟨if h : us'.toArray.size = 1 then us'.toArray[0] else .tuple us'.toArray, ?_, ?_⟩
      · unfold results
        rw [Array.mapM_eq_mapM_toList, hrd]
        simp only [Sem.run_bind, Sem.run_map]
        erw [g1]
        rfl
      · show LeavesInM (FW none) 0 P fn a.tmps R' m2 (settle u1) w3
        rw [hset]
        refine leave_marks (by simp) m2 w3 hm2 hnd3.2.1 (fun r h => (q1.mks.2 r h).1) fun w4 hsh4 => ?_
        obtain ⟨v, hv1, hv2⟩ := lay0_fin (fn := fn) (q1.shut hm2 hsh4) hrs h2
        exact ⟨v, hv1, hR' _ _ hv2⟩
    cases x' with
    | normal => exact fin hq
    | ret => exact fin hq
    | panic ch => exact hq.2.elim
    | exit i => exact hq.elim
    | goto l => exact hq.elim
    | outgrown => exact hq.elim
  have hops := popsP_sound (ops := T.l) hC.f hY T.l' (by rw [← hnd] at h; exact h) hr2
  have hrest : wpOpsS P T.l.toArray (Exit.thenS (Code.wpS P T.rest (postSM P fnd c₀ cs R2)) (postSM P fnd c₀ cs R2)) (List.range' 1 T.l'.length) (Act.put { tmps := (us ++ ws) ++ Array.replicate (fnd.ntmps - (us ++ ws).size) undef, defers := [] } (some T.k) vx) cs1 w1 := by
    refine wpOpsS_of_list ?_ cs1 ?_ T.l' 1 _ _ (fun j => by rw [hl]; simp [Nat.add_comm 1 j]) hops
    · rintro a' w'' ⟨L', e', s', hr', hq⟩; exact hq
    · rintro x' a' w'' ⟨L', e', s', hr', hq⟩
      cases x' with
      | normal => exact wpS_of_wp (Code.wp_mono hpost ((wpIn_wide (n := 0)).1 (pwp_sound hC hm T.rest hO hq _ _ _ _ _ hr')))
      | ret => exact hpost .ret a' w'' ⟨L', e', s', hr', hq⟩
      | panic ch => exact hpost (.panic ch) a' w'' ⟨L', e', s', hr', hq⟩
      | exit i => exact hpost (.exit i) a' w'' ⟨L', e', s', hr', hq⟩
      | goto l => exact hpost (.goto l) a' w'' ⟨L', e', s', hr', hq⟩
      | outgrown => exact hpost .outgrown a' w'' ⟨L', e', s', hr', hq⟩
  rw [List.range_eq_range', show T.l.toArray.size = T.l'.length + 1 by rw [hl]; simp, List.range'_succ]
  unfold wpOpsS
  simp only [show T.l.toArray[0]? = some o0 by rw [hl]; rfl, show Region.wanted o0 (yielded T.l.toArray (us ++ ws ++ Array.replicate (fnd.ntmps - (us ++ ws).size) undef)) = true by simp [Region.wanted, hg], if_true, hx, hk]
  cases hrec : recoverD (c₀ :: cs) with
  | none => rw [hrec] at hcs1; obtain ⟨rfl, rfl⟩ := hcs1; exact hrest
  | some p => obtain ⟨v, cs'⟩ := p; rw [hrec] at hcs1; obtain ⟨rfl, rfl⟩ := hcs1; exact hrest
end
end Go.E

namespace Go.E
open Go Go.RowKit
section
variable {P : Program}

theorem PF_startD {C Cd : CT} {O Od : Nat → Sch} {tb f id : Nat} {fn fnd : Func} {c : Code} {n : Nat} {rs : Array ResultVar} {ds : List D} {R : End → Prop} {T : DText} {o0 : Oper} (hC : C.ok P) (hm : P.follows .mixedOrders = true) (ho : (fn.body.map (okO O)) = some true) (hf : P.funcs[f]? = some fn) (hc : callable P f = true) (hb : fn.body = some c) (hn : fn.ntmps = n) (hrs : fn.results = rs)
    (hCd : Cd.ok P) (hYd : Cd.noY) (hfd : P.funcs[T.fd]? = some fnd) (hcd : callable P T.fd = true) (hbd : fnd.body = some (.seq (.region id T.l.toArray false) T.rest)) (hnd : fnd.ntmps = T.nt) (hrd : fnd.results.toList = T.rsd) (hl : T.l = o0 :: T.l') (hk : o0.dst = some T.k) (hg : o0.guard = none) (hx : ∀ ρ w, (execOp ρ o0).run P w = .ok .recover w) (hO : okO Od T.rest = true)
    (h : pwp P C O 0 c (dK P Cd Od tb T rs.toList R) (ds.map .d ++ List.replicate (n - ds.length) .any) [(0, [])]) : PF P f ds R := by
  refine ⟨hc, fun F w vs hd => (callsFW (r := none) (n := 0)).1 (callsIn_of_wp_marks hf hb trivial (Code.wpIn_mono ?_ (pwp_sound hC hm c (by rw [hb] at ho; simpa using ho) (by rw [← hn] at h; exact h) w (lay0 F w) (lay0 F w) w { tmps := vs ++ Array.replicate (fn.ntmps - vs.size) undef, defers := [] } (lay0_rel hd))))⟩
  rintro x a w' ⟨L, e, s, hr', hq⟩
  have fin : (if (s.get 0).any List.isEmpty = true then outK P rs.toList R e s else dgo P Cd Od tb T rs.toList R (.d (.v .nilIface)) e s) → LeavesInM (FW none) 0 P fn a.tmps (fun en w' => Below w.heap.size w w' ∧ match en with
      | .returned v => ∃ d, R (.ret d) ∧ DRep (look (fun b => F b ∨ w.heap.size ≤ b) w') d v
      | .panicked c => R (.pan c)
      | .outgrown => False) a.defers .returning w' := by
    intro hq
    split at hq
    · rename_i h0
      have h0 : s.get 0 = some [] := by
        cases hs : s.get 0 with
        | none => simp [hs] at h0
        | some l => cases l with
          | nil => rfl
          | cons y ys => simp [hs] at h0
      refine leave_marks (by simp) a.defers w' (rel_none hr' h0).2 hr'.mks.1 (fun r h => (hr'.mks.2 r h).1) fun w'' hsh => ?_
      obtain ⟨v, h1, h2⟩ := lay0_fin (fn := fn) (hr'.shut (rel_none hr' h0).2 hsh) hrs hq
      exact ⟨v, h1, h2.1, h2.2⟩
    · refine dgo_sound (u1 := .returning) (vx := .nilIface) hCd hYd hm hfd hcd hbd hnd hrd hl hk hg hx hO hr' hrs _ (by simp) (fun c₀ cs hc => ?_) rfl (fun m => ⟨.v .nilIface, rfl, (rfl : _ = _)⟩) hq (fun v w'' h => h)
      exact ⟨c₀ :: cs, by simp [recoverD, hc], by rw [← hc]⟩
  cases x with
  | normal => exact fin hq
  | ret => exact fin hq
  | panic ch =>
    unfold dK at hq
    simp only at hq
    split at hq
    · rename_i p
      obtain ⟨hp1, hp2, hq⟩ := hq
      obtain ⟨v, rec, goe⟩ := p
      simp only at hp1 hp2 hq
      subst hp1; subst hp2
      refine dgo_sound (u1 := .panicking [{ v := v, recovered := true }]) (vx := v) hCd hYd hm hfd hcd hbd hnd hrd hl hk hg hx hO (hr'.weaken (wk_Wk (maskB_wk T.m e)) (wkS_get (wkS_refl s))) hrs _ (by simp) (fun c₀ cs hc => ?_) rfl (fun m => ⟨_, rfl, datOf_rep _ _⟩) hq (fun v w'' h => h)
      exact ⟨_, by simp [recoverD, hc], rfl⟩
    · exact hq.elim
  | exit i => exact hq.elim
  | goto l => exact hq.elim
  | outgrown => exact hq.elim

/-! The same as equations. -/
def xD (P : Program) (C : CT) (O : Nat → Sch) (tb : Nat) (T : DText) (rs : List ResultVar) (R : End → Prop) (_ : At T) (_ : At rs) (_ : At R) : Kt := fun x e s => dK P C O tb T rs R x e s
def xDG (P : Program) (C : CT) (O : Nat → Sch) (tb : Nat) (T : DText) (rs : List ResultVar) (R : End → Prop) (_ : At T) (_ : At rs) (_ : At R) (x : AV) (e : List AV) (s : Sto) : Prop := dgo P C O tb T rs R x e s
def xDP (P : Program) (C : CT) (O : Nat → Sch) (tb : Nat) (T : DText) (rs : List ResultVar) (R : End → Prop) (_ : At T) (_ : At rs) (_ : At R) : AV → List AV → Sto → Prop := fun _ e s => outK P rs R e s
def noK : Kt := fun _ _ _ => False
def xY (P : Program) (rs : List ResultVar) (R : End → Prop) (_ : At rs) (_ : At R) (e : List AV) (s : Sto) : Prop := outK P rs R e s
theorem PF_startX {C Cd : CT} {O Od : Nat → Sch} {tb f id : Nat} {fn fnd : Func} {c : Code} {n : Nat} {rs : Array ResultVar} {ds : List D} {R : End → Prop} {T : DText} {o0 : Oper} (hC : C.ok P) (hm : P.follows .mixedOrders = true) (ho : (fn.body.map (okO O)) = some true) (hf : P.funcs[f]? = some fn) (hc : callable P f = true) (hb : fn.body = some c) (hn : fn.ntmps = n) (hrs : fn.results = rs)
    (hCd : Cd.ok P) (hYd : Cd.noY) (hfd : P.funcs[T.fd]? = some fnd) (hcd : callable P T.fd = true) (hbd : fnd.body = some (.seq (.region id T.l.toArray false) T.rest)) (hnd : fnd.ntmps = T.nt) (hrd : fnd.results.toList = T.rsd) (hl : T.l = o0 :: T.l') (hk : o0.dst = some T.k) (hg : o0.guard = none) (hx : ∀ ρ w, (execOp ρ o0).run P w = .ok .recover w) (hO : okO Od T.rest = true)
    (h : xW P C O 0 c (xD P Cd Od tb T rs.toList R (mk _) (mk _) (mk _)) (mk _) (mk _) (ds.map .d ++ List.replicate (n - ds.length) .any) [(0, [])]) : PF P f ds R :=
  PF_startD hC hm ho hf hc hb hn hrs hCd hYd hfd hcd hbd hnd hrd hl hk hg hx hO h
def xOP (P : Program) (C : CT) (tb : Nat) (l : List Oper) (Q : Kt) (_ : At l) (_ : At Q) (e : List AV) (s : Sto) : Prop := popsP P C tb l Q e s
theorem op_nil {C : CT} {tb : Nat} {Q : Kt} {i : At []} {j : At Q} {e : List AV} {s : Sto} : xOP P C tb [] Q i j e s = Q .normal e s := id rfl
theorem op_cons {C : CT} {tb : Nat} {Q : Kt} {d : Option Nat} {op : Op} {type : Nat} {pos : String} {af : Array Edge} {r : List Oper} {i : At ((⟨d, op, type, pos, af, none⟩ : Oper) :: r)} {j : At Q} {e : List AV} {s : Sto} : xOP P C tb (⟨d, op, type, pos, af, none⟩ :: r) Q i j e s = xP P C tb ⟨d, op, type, pos, af, none⟩ (fun e s => xOP P C tb r Q (mk _) (mk _) e s) Q (mk _) (mk _) (mk _) e s := by
  simp only [xOP, popsP, xP, true_and]
variable {C : CT} {O : Nat → Sch} {tb : Nat} {T : DText} {rs : List ResultVar} {R : End → Prop} {i : At T} {j : At rs} {k : At R} {e : List AV} {s : Sto}
theorem d_y : xY P rs R j k e s = (resAll P e s rs ∧ oK (AV.outs s (rs.map (resV P e s))) (fun ds => R (.ret (packD ds))) (mk _)) := by
  simp only [xY, outK, oK]; cases AV.outs s (rs.map (resV P e s)) <;> simp
theorem d_n : xD P C O tb T rs R i j k .normal e s = if (s.get 0).any List.isEmpty = true then xY P rs R (mk _) (mk _) e s else xDG P C O tb T rs R (mk _) (mk _) (mk _) (.d (.v .nilIface)) e s := id rfl
theorem d_r : xD P C O tb T rs R i j k .ret e s = if (s.get 0).any List.isEmpty = true then xY P rs R (mk _) (mk _) e s else xDG P C O tb T rs R (mk _) (mk _) (mk _) (.d (.v .nilIface)) e s := id rfl
theorem d_p {fd nt kk : Nat} {l l' : List Oper} {rest : Code} {rsd : List ResultVar} {mm : List Bool} {i : At (⟨fd, nt, kk, l, l', rest, rsd, mm⟩ : DText)} {v : Value} : xD P C O tb ⟨fd, nt, kk, l, l', rest, rsd, mm⟩ rs R i j k (.panic [{ v := v, recovered := false }]) e s = xDG P C O tb ⟨fd, nt, kk, l, l', rest, rsd, mm⟩ rs R (mk _) (mk _) (mk _) (.d (datOf 9 v)) (maskB mm e) s := by
  simp [xD, xDG, dK]
theorem d_g {fd nt kk : Nat} {l l' : List Oper} {rest : Code} {rsd : List ResultVar} {mm : List Bool} {i : At (⟨fd, nt, kk, l, l', rest, rsd, mm⟩ : DText)} {x : AV} : xDG P C O tb ⟨fd, nt, kk, l, l', rest, rsd, mm⟩ rs R i j k x e s =
    oK (dclo fd (s.get 0)) (fun args => xOP P C tb l' (xS (fun e' s' => xW P C O tb rest (xI P e.length 0 rsd (fun _ e s => xY P rs R (mk _) (mk _) e s) noK (mk _) (mk _) (mk _)) (mk _) (mk _) e' s') (xI P e.length 0 rsd (fun _ e s => xY P rs R (mk _) (mk _) e s) noK (mk _) (mk _) (mk _)) (mk _) (mk _)) (mk _) (mk _)
      ((args ++ List.replicate (nt - args.length) AV.any).set kk x) (s.upd 0 e)) (mk _) := by
  simp only [xDG, dgo, oK]; cases dclo fd (s.get 0) <;> rfl
def qdb (l : List Oper) (m : List Bool) : Bool := l.all fun o => match o.dst with | some d => !(m.getD d false) | none => true
theorem qdb_ok {l : List Oper} {m : List Bool} (h : id (qdb l m) = true) : qdb l m = true := h
theorem qd_D {fd nt kk : Nat} {l0 l l' : List Oper} {rest : Code} {rsd : List ResultVar} {mm : List Bool} {i : At (⟨fd, nt, kk, l, l', rest, rsd, mm⟩ : DText)} {m : At l0} {k'} (h : qdb l0 mm = true) : xQd l0 (xD P C O tb ⟨fd, nt, kk, l, l', rest, rsd, mm⟩ rs R i j k) m k' = True :=
  propext ⟨fun _ => trivial, fun _ c e s d ⟨o, ho, hd⟩ hq => by
    have h1 := List.all_eq_true.1 h o ho
    rw [hd] at h1
    have h2 : mm.getD d false = false := by simpa using h1
    simp only [xD, dK] at hq ⊢
    rw [maskB_set _ _ _ h2]
    exact hq⟩

/-! ### defer -/
def dfK (x : AV) (c : Option (List AV)) (K : List AV → Prop) (_ : At K) : Prop := match x, c with | .clo fn a b, some c => c = [] ∧ K (.clo fn a b :: c) | _, _ => False
theorem p_defer {tb : Nat} {type : Nat} {pos : String} {af : Array Edge} {g : Option (Nat × Bool)} {K : List AV → Sto → Prop} {Q : Kt} {f : Operand} {ts : Array TypeId} {m1 : At (⟨none, .defer ⟨.value f, #[], ts⟩, type, pos, af, g⟩ : Oper)} {m2 : At K} {m3 : At Q} :
    xP P C tb ⟨none, .defer ⟨.value f, #[], ts⟩, type, pos, af, g⟩ K Q m1 m2 m3 e s = dfK (aval e f) (s.get 0) (fun c => K e (s.upd 0 c)) (mk _) := by
  simp only [xP, pop, dfK]
  split <;> simp_all
theorem df_clo {fn : Fn} {a b : List AV} {K : List AV → Prop} {m : At K} : dfK (.clo fn a b) (some []) K m = K [.clo fn a b] := by simp [dfK]
theorem k_dfr {c : Call} : k0 (.defer c) = false := rfl

/-! ### The nil slice as a row of the call's own, without rows -/
theorem seed {Q : Kt} {e : List AV} {s : Sto} {c : Code} {m1 : At c} {m2 : At Q} (n g el sz : Nat) (hg : g ≠ 0) (he : e[n]? = some (.d (.v (.slice none 0 0)))) (hm : AV.mens g e = false) (hs : s.mens g = false) (hn : s.get g = none)
    (h : xL P c Q m1 m2 (e.set n (.own g el sz [])) s) : xL P c Q m1 m2 e s := fun W0 L0 L w a hr => by
  let L' : Lay := { L with hdr := fun g' => if g' = g then .slice none 0 0 else L.hdr g' }
  have hsame : Same g L w L' w := ⟨fun b hb _ => ⟨rfl, rfl⟩, fun _ _ => rfl, fun g' hg' => by simp [L', hg'], rfl, fun _ _ => rfl⟩
  have h1 := hr.step hg hsame hm hs hn (hr.not_old hg) (Nat.le_refl _) hr.own_lt rfl rfl rfl
  obtain ⟨u, hu, hx⟩ := h1.slots.get n _ he
  have hx : u = .slice none 0 0 := hx
  subst hx
  refine h W0 L0 L' w a { h1 with slots := ?_ }
  have hrow : ARep L' w (.own g el sz []) (.slice none 0 0) := ⟨by simp [L'], [], World.ownsRow_nil w 0 el sz, by simp [Value.ownBlock], by simp, by simp, rfl⟩
  have := AReps.set h1.slots n hrow
  have hset : a.tmps.toList.set n (.slice none 0 0) = a.tmps.toList := by
    apply List.ext_getElem?
    intro i
    by_cases hi : n = i
    · subst hi; rw [List.getElem?_set_self', hu]; rfl
    · rw [List.getElem?_set_ne hi]
  rwa [hset] at this
end
end Go.E
namespace Go.E
open Go Go.RowKit
/-! ### Loops, once more: the store may lose entries -/
def wkG (s : Sto) : Sto → Prop
  | [] => True
  | (h, c) :: r => oK (s.get h) (fun c0 => wk c0 c) (mk _) ∧ wkG s r
theorem wkG_get {s : Sto} : ∀ {s' : Sto}, wkG s s' → ∀ g c, s'.get g = some c → ∃ c0, s.get g = some c0 ∧ Wk c0 c
  | [], _, g, c, hc => by simp [Sto.get] at hc
  | (h, y) :: r, ⟨h1, h2⟩, g, c, hc => by
    simp only [Sto.get] at hc
    by_cases hg : h = g
    · rw [if_pos hg] at hc; cases hc
      subst hg
      unfold oK at h1
      split at h1
      · rename_i c0 e0; exact ⟨c0, e0, wk_Wk h1⟩
      · exact h1.elim
    · rw [if_neg hg] at hc; exact wkG_get h2 g c hc
theorem loop_go' {P : Program} {C : CT} {O : Nat → Sch} {tb : Nat} (hC : C.ok P) (hm : P.follows .mixedOrders = true) {c : Code} (ho : okO O c = true) {Q : Kt} {i : At c} {j : At Q} {e : List AV} {s : Sto} {σ : Type} (E : σ → List (Nat × AV)) (S : σ → Sto) (I : σ → Prop) (μ : σ → Nat) (nx : σ → σ) (x0 : σ)
    (h0 : I x0) (hw : wk e (setAll e (E x0)) ∧ wkG s (S x0))
    (round : ∀ x, I x → xW P C O tb c (xS (fun e' s' => (I (nx x) ∧ μ (nx x) < μ x) ∧ wk e' (setAll e (E (nx x))) ∧ wkG s' (S (nx x))) Q (mk _) (mk _)) (mk _) (mk _) (setAll e (E x)) (S x)) : xL P c Q i j e s :=
  fun W0 L0 L w a hr => by
  refine wpIn_loop_ghost (fun n a w => ∃ x, I x ∧ μ x = n ∧ ∃ L, Rel W0 L0 L (setAll e (E x)) (S x) w a) (μ x0) ⟨x0, h0, rfl, L, hr.weaken (wk_Wk hw.1) (wkG_get hw.2)⟩ ?_
  rintro n a w ⟨x, hx, rfl, L, hr⟩
  refine Code.wpIn_mono (lift_seq fun L e' s' a w h1 h2 => ?_) (pwp_sound hC hm c ho (round x hx) W0 L0 L w a hr)
  exact ⟨μ (nx x), h2.1.2, nx x, h2.1.1, rfl, L, h1.weaken (wk_Wk h2.2.1) (wkG_get h2.2.2)⟩
theorem wkG_refl (s : Sto) (h : wkG s s) : wkG s s := h
/-- The store stays as it was. -/
theorem loop_s {P : Program} {C : CT} {O : Nat → Sch} {tb : Nat} (hC : C.ok P) (hm : P.follows .mixedOrders = true) {c : Code} (ho : okO O c = true) {Q : Kt} {i : At c} {j : At Q} {e : List AV} {s : Sto} {σ : Type} (E : σ → List (Nat × AV)) (I : σ → Prop) (μ : σ → Nat) (nx : σ → σ) (x0 : σ)
    (h0 : I x0) (hw : wk e (setAll e (E x0)))
    (round : ∀ x, I x → xW P C O tb c (xS (fun e' s' => (I (nx x) ∧ μ (nx x) < μ x) ∧ wk e' (setAll e (E (nx x))) ∧ wkG s' s) Q (mk _) (mk _)) (mk _) (mk _) (setAll e (E x)) s) : xL P c Q i j e s :=
  fun W0 L0 L w a hr => by
  refine wpIn_loop_ghost (fun n a w => ∃ x, I x ∧ μ x = n ∧ ∃ L, Rel W0 L0 L (setAll e (E x)) s w a) (μ x0) ⟨x0, h0, rfl, L, hr.weaken (wk_Wk hw) (wkS_get (wkS_refl s))⟩ ?_
  rintro n a w ⟨x, hx, rfl, L, hr⟩
  refine Code.wpIn_mono (lift_seq fun L e' s' a w h1 h2 => ?_) (pwp_sound hC hm c ho (round x hx) W0 L0 L w a hr)
  exact ⟨μ (nx x), h2.1.2, nx x, h2.1.1, rfl, L, h1.weaken (wk_Wk h2.2.1) (wkG_get h2.2.2)⟩
end Go.E

namespace Go.E
open Go Go.RowKit

/-! ### Results: the nil slice is a slice without rows -/
mutual
def nilEq : D → D → Prop
  | .tup xs, y => match y with | .tup ys => nilEqs xs ys | _ => False
  | .agg xs, y => match y with | .agg ys => nilEqs xs ys | _ => False
  | .v x, y => match y with | .v z => x = z | .sl _ rows => x = .slice none 0 0 ∧ rows = [] | _ => False
  | .sl s r, y => match y with | .sl s' r' => s = s' ∧ r = r' | _ => False
  | .ptr xs o, y => match y with | .ptr ys o' => o = o' ∧ nilEqs xs ys | _ => False
  | x, y => x = y
def nilEqs : List D → List D → Prop
  | [], ys => match ys with | [] => True | _ => False
  | x :: xs, ys => match ys with | y :: ys => nilEq x y ∧ nilEqs xs ys | _ => False
end
mutual
theorem nilEq_rep {m : Mem} : ∀ {x y : D} {u : Value}, nilEq x y → DRep m x u → DRep m y u
  | .tup xs, y, u, h, ⟨us, e, k⟩ => by
    unfold nilEq at h; split at h
    · exact ⟨us, e, nilEqs_rep h k⟩
    · exact h.elim
  | .agg xs, y, u, h, ⟨us, e, k⟩ => by
    unfold nilEq at h; split at h
    · exact ⟨us, e, nilEqs_rep h k⟩
    · exact h.elim
  | .v x, y, u, h, k => by
    unfold nilEq at h; split at h
    · subst h; exact k
    · obtain ⟨rfl, rfl⟩ := h
      have hu : u = .slice none 0 0 := k
      exact ⟨none, 0, 0, hu, rfl, Nat.le_refl _, .inl ⟨rfl, rfl, rfl⟩⟩
    · exact h.elim
  | .sl s r, y, u, h, k => by
    unfold nilEq at h; split at h
    · obtain ⟨rfl, rfl⟩ := h; exact k
    · exact h.elim
  | .iface t x, y, u, h, k => by
    unfold nilEq at h; subst h; exact k
  | .ptr xs o, y, u, h, ⟨b, p, e, k⟩ => by
    unfold nilEq at h; split at h
    · obtain ⟨rfl, h⟩ := h
      exact ⟨b, p, e, nilEqs_cells h k⟩
    · exact h.elim
  | .clo _ _ _, y, u, h, k => by
    unfold nilEq at h; subst h; exact k
theorem nilEqs_rep {m : Mem} : ∀ {xs ys : List D} {us : List Value}, nilEqs xs ys → DReps m xs us → DReps m ys us
  | [], ys, us, h, k => by
    unfold nilEqs at h; split at h
    · exact k
    · exact h.elim
  | x :: xs, ys, us, h, ⟨u, ut, e, k1, k2⟩ => by
    unfold nilEqs at h; split at h
    · exact ⟨u, ut, e, nilEq_rep h.1 k1, nilEqs_rep h.2 k2⟩
    · exact h.elim
theorem nilEqs_cells {m : Mem} {b : Nat} : ∀ {xs ys : List D} {o : Nat}, nilEqs xs ys → DCells m b o xs → DCells m b o ys
  | [], ys, o, h, k => by
    unfold nilEqs at h; split at h
    · exact k
    · exact h.elim
  | x :: xs, ys, o, h, ⟨⟨u, e, e1, k1⟩, k2⟩ => by
    unfold nilEqs at h; split at h
    · exact ⟨⟨u, e, e1, nilEq_rep h.1 k1⟩, nilEqs_cells h.2 k2⟩
    · exact h.elim
end
def retEq (z : End) (d : D) : Prop := match z with | .ret x => nilEq x d | .pan _ => False
theorem re_r {x d : D} : retEq (.ret x) d = nilEq x d := id rfl
theorem re_p {c : List PanicEntry} {d : D} : retEq (.pan c) d = False := id rfl
theorem n_tup {xs ys : List D} : nilEq (.tup xs) (.tup ys) = nilEqs xs ys := by simp only [nilEq]
theorem n_agg {xs ys : List D} : nilEq (.agg xs) (.agg ys) = nilEqs xs ys := by simp only [nilEq]
theorem n_v {x y : Value} : nilEq (.v x) (.v y) = (x = y) := by simp only [nilEq]
theorem n_nil {s : Nat} {rows : List (List D)} : nilEq (.v (.slice none 0 0)) (.sl s rows) = (rows = []) := by simp [nilEq]
theorem n_sl {s s' : Nat} {r r' : List (List D)} : nilEq (.sl s r) (.sl s' r') = (s = s' ∧ r = r') := by simp only [nilEq]
theorem n_ptr {xs ys : List D} {o o' : Nat} : nilEq (.ptr xs o) (.ptr ys o') = (o = o' ∧ nilEqs xs ys) := by simp only [nilEq]
theorem n_if {t : Nat} {x : D} {y : D} : nilEq (.iface t x) y = (.iface t x = y) := by simp only [nilEq]
theorem ns_nil : nilEqs [] [] = True := by simp only [nilEqs]
theorem ns_cons {x y : D} {xs ys : List D} : nilEqs (x :: xs) (y :: ys) = (nilEq x y ∧ nilEqs xs ys) := by simp only [nilEqs]
theorem nm_nil {α : Type} {f : α → List D} {l : List α} : (l.map f = []) = (l = []) := by simp

theorem PF_nil {P : Program} {f : Nat} {ds : List D} {d : D} (h : PF P f ds (fun z => retEq z d)) : PF P f ds (fun z => z = .ret d) :=
  ⟨h.1, fun F w vs hd => (h.2 F w vs hd).mono fun en w' ⟨h1, h2⟩ => ⟨h1, by
    cases en with
    | returned v => obtain ⟨d', h3, h4⟩ := h2; exact ⟨d, rfl, nilEq_rep h3 h4⟩
    | panicked c => exact h2.elim
    | outgrown => exact h2⟩⟩

def cpK (P : Program) (t : Nat) (x y : AV) (d : Option Nat) (K : List AV → Sto → Prop) (_ : At K) (e : List AV) (s : Sto) : Prop :=
  match x with
  | .own g el' sz' rows => oK (rowTy P t) (fun z => (g ≠ 0 ∧ s.get g = none ∧ el' = z.1 ∧ sz' = z.2.1) ∧ y.isSl z.2.1 ∧ y.rows.length ≤ rows.length ∧ K (eset (e.map (AV.cpy g z.2.1 y.rows)) d (.i y.rows.length)) (s.cpy g z.2.1 y.rows)) (mk _)
  | _ => False
theorem p_copy {P : Program} {C : CT} {tb : Nat} {d : Option Nat} {type : Nat} {pos : String} {af : Array Edge} {g : Option (Nat × Bool)} {K : List AV → Sto → Prop} {Q : Kt} {x y : Operand} {t t' : Nat} {e : List AV} {s : Sto} {m1 : At (⟨d, .call ⟨.builtin .copy, #[x, y], #[t, t']⟩, type, pos, af, g⟩ : Oper)} {m2 : At K} {m3 : At Q} :
    xP P C tb ⟨d, .call ⟨.builtin .copy, #[x, y], #[t, t']⟩, type, pos, af, g⟩ K Q m1 m2 m3 e s = cpK P t (aval e x) (aval e y) d K (mk _) e s := by
  simp only [xP, pop, cpK, oK, List.getD, Array.getD_eq_getD_getElem?]
  cases h : rowTy P t with
  | none => generalize aval e x = q; cases q <;> simp [h]
  | some z => obtain ⟨a, b, c⟩ := z; simp only [List.getElem?_toArray, List.getElem?_cons_zero, Option.getD_some, h]; generalize aval e x = q; cases q <;> simp
theorem cp_own {P : Program} {t g el' sz' : Nat} {rows : List (List D)} {y : AV} {d : Option Nat} {K : List AV → Sto → Prop} {m : At K} {e : List AV} {s : Sto} : cpK P t (.own g el' sz' rows) y d K m e s = oK (rowTy P t) (fun z => (g ≠ 0 ∧ s.get g = none ∧ el' = z.1 ∧ sz' = z.2.1) ∧ y.isSl z.2.1 ∧ y.rows.length ≤ rows.length ∧ K (eset (e.map (AV.cpy g z.2.1 y.rows)) d (.i y.rows.length)) (s.cpy g z.2.1 y.rows)) (mk _) := id rfl
theorem k_copy {x : Array Operand} {ts : Array Nat} : k0 (.call ⟨.builtin .copy, x, ts⟩) = false := rfl
theorem p_mki {P : Program} {C : CT} {tb : Nat} {d : Option Nat} {type : Nat} {pos : String} {af : Array Edge} {g : Option (Nat × Bool)} {K : List AV → Sto → Prop} {Q : Kt} {t : Nat} {x : Operand} {e : List AV} {s : Sto} {m1 : At (⟨d, .makeInterface t x, type, pos, af, g⟩ : Oper)} {m2 : At K} {m3 : At Q} :
    xP P C tb ⟨d, .makeInterface t x, type, pos, af, g⟩ K Q m1 m2 m3 e s = (notIface P t = true ∧ K (eset e d (ifV t (aval e x))) s) := by simp [xP, pop, k0, ps, pv]
theorem p_asrt {P : Program} {C : CT} {tb : Nat} {d : Option Nat} {type : Nat} {pos : String} {af : Array Edge} {g : Option (Nat × Bool)} {K : List AV → Sto → Prop} {Q : Kt} {x : Operand} {u t : Nat} {ok : Bool} {e : List AV} {s : Sto} {m1 : At (⟨d, .typeAssert x u t ok, type, pos, af, g⟩ : Oper)} {m2 : At K} {m3 : At Q} :
    xP P C tb ⟨d, .typeAssert x u t ok, type, pos, af, g⟩ K Q m1 m2 m3 e s = (asrtS P (aval e x) t ok ∧ K (eset e d (asrt P (aval e x) t ok)) s) := by simp [xP, pop, k0, ps, pv]
theorem p_index {P : Program} {C : CT} {tb : Nat} {d : Option Nat} {type : Nat} {pos : String} {af : Array Edge} {g : Option (Nat × Bool)} {K : List AV → Sto → Prop} {Q : Kt} {x i : Operand} {t : Nat} {e : List AV} {s : Sto} {m1 : At (⟨d, .index t x i, type, pos, af, g⟩ : Oper)} {m2 : At K} {m3 : At Q} :
    xP P C tb ⟨d, .index t x i, type, pos, af, g⟩ K Q m1 m2 m3 e s = ((isStringTy P t = true ∧ (aval e x).isStr ∧ (aval e i).isInt ∧ 0 ≤ (aval e i).int ∧ (aval e i).int < (aval e x).str.size) ∧ K (eset e d (.d (.v (.int .u8 ((aval e x).str.data.getD (aval e i).int.toNat 0).toNat)))) s) := by simp [xP, pop, k0, ps, pv]
theorem p_slice {P : Program} {C : CT} {tb : Nat} {d : Option Nat} {type : Nat} {pos : String} {af : Array Edge} {g : Option (Nat × Bool)} {K : List AV → Sto → Prop} {Q : Kt} {x : Operand} {t : Nat} {lo hi mx : Option Operand} {e : List AV} {s : Sto} {m1 : At (⟨d, .slice t x lo hi mx, type, pos, af, g⟩ : Oper)} {m2 : At K} {m3 : At Q} :
    xP P C tb ⟨d, .slice t x lo hi mx, type, pos, af, g⟩ K Q m1 m2 m3 e s = (ps P s [] (.slice t x lo hi mx) (aval e) ∧ K (eset e d (pv P s (.slice t x lo hi mx) (aval e))) s) := by simp [xP, pop, k0]
theorem t_clo {P : Program} {f : Nat} {a b args : List AV} : target P (.clo (.func f) a b) args = some (f, a ++ args ++ b) := id rfl
theorem t_dclo {P : Program} {f : Nat} {a b : List D} {args : List AV} : target P (.d (.clo (.func f) a b)) args = some (f, a.map .d ++ args ++ b.map .d) := id rfl
theorem iv_d {P : Program} {t : Nat} {y : D} {nm : String} {args : List AV} : invTarget P (.d (.iface t y)) nm args = (mth P t nm).map fun f => (f, .d y :: args) := id rfl
theorem iv_i {P : Program} {t : Nat} {y : AV} {nm : String} {args : List AV} : invTarget P (.iface t y) nm args = (mth P t nm).map fun f => (f, y :: args) := id rfl
theorem row_set {α : Type} {l : List α} {f : α → List D} {i : Nat} {r : List D} (h : i < l.length) : ((l.map f).set i r).getD i [] = r := by
  simp [List.getD, h]
/-- To look at a state. -/
def peekP (_ : List AV) (_ : Sto) : Prop := False
theorem p_mkf {P : Program} {C : CT} {tb : Nat} {d : Option Nat} {type : Nat} {pos : String} {af : Array Edge} {g : Option (Nat × Bool)} {K : List AV → Sto → Prop} {Q : Kt} {f : Fn} {x y : Array Operand} {e : List AV} {s : Sto} {m1 : At (⟨d, .makeFunc f x y, type, pos, af, g⟩ : Oper)} {m2 : At K} {m3 : At Q} :
    xP P C tb ⟨d, .makeFunc f x y, type, pos, af, g⟩ K Q m1 m2 m3 e s = K (eset e d (cloV f (x.toList.map (aval e)) (y.toList.map (aval e)))) s := by simp [xP, pop, k0, ps, pv]
/-! ### Types asserted -/
theorem as_d {P : Program} {u t : Nat} {y : D} {ok : Bool} : asrt P (.d (.iface u y)) t ok = if u = t then (if ok = true then AV.mkTup [.d y, .b true] else .d y) else AV.mkTup [zeroA P t, .b false] := id rfl
theorem as_i {P : Program} {u t : Nat} {y : AV} {ok : Bool} : asrt P (.iface u y) t ok = if u = t then (if ok = true then AV.mkTup [y, .b true] else y) else AV.mkTup [zeroA P t, .b false] := id rfl
theorem as_n {P : Program} {t : Nat} {ok : Bool} : asrt P (.d (.v .nilIface)) t ok = AV.mkTup [zeroA P t, .b false] := id rfl

/-- The nil slice in a variable of the call's own, as a row of its own. -/
theorem seedS {P : Program} {Q : Kt} {e : List AV} {s : Sto} {c : Code} {m1 : At c} {m2 : At Q} (k n g el sz : Nat) (cells : List AV) (hg : g ≠ 0) (hk : k ≠ 0) (hc : s.get k = some cells) (he : cells[n]? = some (.d (.v (.slice none 0 0)))) (hm : AV.mens g e = false) (hs : s.mens g = false) (hn : s.get g = none)
    (h : xL P c Q m1 m2 e (s.upd k (cells.set n (.own g el sz [])))) : xL P c Q m1 m2 e s := fun W0 L0 L w a hr => by
  let L' : Lay := { L with hdr := fun g' => if g' = g then .slice none 0 0 else L.hdr g' }
  have hsame : Same g L w L' w := ⟨fun b hb _ => ⟨rfl, rfl⟩, fun _ _ => rfl, fun g' hg' => by simp [L', hg'], rfl, fun _ _ => rfl⟩
  have h1 := hr.step hg hsame hm hs hn (hr.not_old hg) (Nat.le_refl _) hr.own_lt rfl rfl rfl
  refine h W0 L0 L' w a { h1 with objs := fun g' c' hc' => ?_ }
  rw [Sto.get_upd] at hc'
  by_cases hkg : k = g'
  · subst hkg
    rw [if_pos rfl, hc] at hc'
    simp at hc'; subst hc'
    refine ⟨fun h0 => absurd h0 hk, fun _ => ?_⟩
    obtain ⟨vs, e1, e3⟩ := (h1.objs k cells hc).2 hk
    obtain ⟨u, hu, hx⟩ := e3.get n _ he
    have hx : u = .slice none 0 0 := hx
    subst hx
    have hrow : ARep L' w (.own g el sz []) (.slice none 0 0) := ⟨by simp [L'], [], World.ownsRow_nil w 0 el sz, by simp [Value.ownBlock], by simp, by simp, rfl⟩
    have := AReps.set e3 n hrow
    refine ⟨vs, e1, ?_⟩
    have hset : vs.set n (.slice none 0 0) = vs := by
      apply List.ext_getElem?
      intro i
      by_cases hi : n = i
      · subst hi; rw [List.getElem?_set_self', hu]; rfl
      · rw [List.getElem?_set_ne hi]
    rwa [hset] at this
  · rw [if_neg hkg] at hc'
    exact h1.objs g' c' hc'
end Go.E

namespace Go.E
open Go Go.RowKit

/-! ### yield -/
def setPs : List AV → List Nat → List AV → List AV
  | e, p :: ps, x :: xs => setPs (e.set p x) ps xs
  | e, _, _ => e
def roundF (g n m : Nat) (z : Int) (b : Bool) (K : AV → List AV → Sto → Prop) (s : Sto) : Prop :=
  ((s.get 0).isSome = true ∧ s.hidn = n + m) ∧ match s.get g with
    | some (h :: sn) => h = zcell 1 ∧ K (.d (.v (.bool b))) (s.top n) ((s.pull n).upd g (zcell z :: sn))
    | _ => False
/-- What follows behind a round, by the way in which its body is left. -/
def roundK (g n m : Nat) (K : AV → List AV → Sto → Prop) : Exit → List AV → Sto → Prop
  | .normal, _, s => roundF g n m 0 true K s
  | .ret, _, s => roundF g n m (-1) false K s
  | .exit id, _, s => roundF g n m ((id : Int) + 2) false K s
  | .goto l, _, s => roundF g n m (-((l : Int) + 2)) false K s
  | _, _, _ => False
def begunK (P : Program) (C : CT) (O : Nat → Sch) (tb g : Nat) (bd : Code) (Q : Exit → List AV → Sto → Prop) : Exit → List AV → Sto → Prop
  | .normal, e, s => (match s.get g with
    | some (h :: sn) => h = zcell 0 ∧ pwp P C O tb bd Q e (s.upd g (zcell 1 :: sn))
    | _ => False)
  | _, _, _ => False
/-- A call of a loop's yield, its round walked in place: with the tables of the function that the loop stands in. -/
def yldP (P : Program) (C : CT) (O : Nat → Sch) (tb g : Nat) (ps : List Nat) (as bd : Code) (args : List AV) (K : AV → List AV → Sto → Prop) (e : List AV) (s : Sto) : Prop :=
  match s.get g, s.push e with
  | some (h :: sn), some s1 => (h = zcell 0 ∧ ps.length = args.length ∧ 0 < e.length) ∧ pwp P C O tb as (begunK P C O tb g bd (roundK g e.length s.hidn K)) (setPs sn ps args) s1
  | _, _ => False

theorem setPs_rep {L : Lay} {w : World} : ∀ {ps : List Nat} {sn args : List AV} {tm : Array Value} {vs : List Value}, AReps L w sn tm.toList → AReps L w args vs →
    AReps L w (setPs sn ps args) ((ps.zip vs).foldl (fun tmps (t, a) => tmps.setIfInBounds t a) tm).toList
  | [], sn, args, tm, vs, h, _ => by cases args <;> simpa [setPs] using h
  | p :: ps, sn, [], tm, vs, h, k => by rw [show vs = [] from k]; simpa [setPs] using h
  | p :: ps, sn, x :: args, tm, vs, h, ⟨u, ut, e, k1, k2⟩ => by
    subst e
    simp only [setPs, List.zip_cons_cons, List.foldl_cons]
    exact setPs_rep (by simpa using h.set p k1) k2
theorem Sto.upd_comm {g h : Nat} {c d : List AV} (hgh : g ≠ h) : ∀ s : Sto, (s.upd g c).upd h d = (s.upd h d).upd g c
  | [] => rfl
  | (k, x) :: r => by
    by_cases h1 : k = g
    · subst h1
      simp [Sto.upd, hgh]
    · by_cases h2 : k = h
      · subst h2; simp [Sto.upd, h1]
      · simp [Sto.upd, h1, h2, Sto.upd_comm hgh r]
theorem get0_upd {g : Nat} {c : List AV} {s : Sto} (hg : g ≠ 0) : (s.upd g c).get 0 = s.get 0 := by rw [Sto.get_upd, if_neg hg]
theorem rel_pull' {W0 : World} {L0 L1 L' : Lay} {e' : List AV} {s' : Sto} {w' : World} {a a' : Act} {n m : Nat} {Lh : List Value} {kp : List (Nat × Obj)} (hr : Rel W0 L1 L' e' s' w' a') (h1 : L1.hid = a.tmps.toList ++ Lh) (h2 : ∀ x ∈ L0.kp ++ markObjs a.defers, x ∈ L1.kp) (h3 : L0.lk = L1.lk) (h4 : ∀ b, L0.own b = L1.own b) (hl : a.tmps.toList.length = n) (hm : Lh.length = m)
    (hd : ∃ vs, Lh = vs ++ L0.hid ∧ strip a.defers = vs.map undv) (hrd : L0.rd = none ∨ L0.hid ≠ []) (hrk : ∀ l, L0.rd = some l → ∃ r, (l, Obj.loop r) ∈ L0.kp) (hnd : (marks a.defers).Nodup) (hmb : ∀ r ∈ marks a.defers, W0.heap.size ≤ r ∧ ∀ o, (r, o) ∉ L0.kp)
    (h0 : (s'.get 0).isSome = true ∧ s'.hidn = n + m) : Rel W0 L0 (L'.with Lh kp) (s'.top n) (s'.pull n) w' a := by
  obtain ⟨h0, hh⟩ := h0
  obtain ⟨c, hc⟩ := Option.isSome_iff_exists.1 h0
  have hobj := (hr.objs 0 c hc).1 rfl
  obtain ⟨vs, hv1, hv2⟩ := hr.hid
  rw [hv1, h1] at hobj
  have hlen := hobj.length
  simp only [Sto.hidn, hc, Option.getD_some] at hh
  have hz : vs = [] := by
    apply List.length_eq_zero_iff.1
    simp only [List.length_append] at hlen
    omega
  subst hz
  rw [List.nil_append] at hobj
  obtain ⟨k1, k2⟩ := take_reps hobj hl
  refine hr.hide h0 k2 hd ⟨hnd, fun r h => by obtain ⟨⟨o', q1, q3⟩, q2⟩ := hr.kept _ _ (h2 _ (List.mem_append_right _ (mem_markObjs h))); rw [show o' = _ from q3] at q1; exact ⟨q1, q2⟩⟩ hmb (fun b o h => hr.kept _ _ (h2 _ (List.mem_append_left _ h))) hrk (by simpa [Sto.top, hc] using k1) h4 hrd (fun g => ?_) h3
  unfold Sto.pull
  rw [Sto.get_upd]
  by_cases h : 0 = g
  · subst h; simp [hc]
  · simp [h]

theorem lstate_exit (n : Nat) : lstate ((n : Int) + 2) = (.done, some (.exit n)) := by
  unfold lstate
  rw [if_neg (by omega), if_neg (by omega), if_neg (by omega), if_pos (by omega), show ((n : Int) + 2 - 2).toNat = n by omega]
theorem lstate_goto (n : Nat) : lstate (-((n : Int) + 2)) = (.done, some (.goto n)) := by
  unfold lstate
  rw [if_neg (by omega), if_neg (by omega), if_neg (by omega), if_neg (by omega), show (-(-((n : Int) + 2)) - 2).toNat = n by omega]
theorem yld_sound {P : Program} {C : CT} {O : Nat → Sch} {tb : Nat} (hC : C.ok P) (hm : P.follows .mixedOrders = true) {g : Nat} {ps : List Nat} {as bd : Code} (hoa : okO O as = true) (hob : okO O bd = true)
    {args' : List AV} {e : List AV} {s : Sto} {K : AV → List AV → Sto → Prop} {Q : Exit → List AV → Sto → Prop} (h : yldP P C O tb g ps as bd args' K e s) : pyld P g ps as bd args' K Q e s := by
  intro dst type pos after guard f args ts W0 L0 L w a hx harg hr
  subst harg
  unfold yldP at h
  split at h
  case h_2 => exact h.elim
  rename_i hd sn s1 hs hp
  obtain ⟨⟨rfl, hlen, hpos⟩, h⟩ := h
  have hf := aval_rep hr.slots f
  rw [hx] at hf
  obtain ⟨r, hk, hfv, hps, has, hbd⟩ := hf
  obtain ⟨hown, hheap, hsn⟩ := loop_at hr hk hs
  have hk0 : L0.lk g = some r := by rw [← hr.lke]; exact hk
  have hg : g ≠ 0 := fun h => by have := (hr.lkb g r hk0).1; omega
  have hargs : AReps L w (args.toList.map (aval e)) (args.map a.eval).toList := by rw [Array.toList_map]; exact areps_map (fun x => aval_rep hr.slots x) _
  have hsz : (args.map a.eval).size = (r.at 0).params.size := by
    have h1 := hargs.length
    simp only [Array.length_toList] at h1
    rw [h1, ← hlen, ← hps]; simp [LoopS.at]
  have hrun : (execOp a.eval (⟨dst, .call ⟨.value f, args, ts⟩, type, pos, after, guard⟩ : Oper)).run P w = .ok (.round r.l r.fn ((r.params.zip (args.map a.eval)).foldl (fun tmps (t, a) => tmps.setIfInBounds t a) r.tm) r.assign r.body) w := by
    have hy := run_yield (P := P) hheap hsz
    simp only [execOp, resolve, hfv, Deferred.ofValue, Sem.run_bind, Sem.run_pure, Result.andThen_ok, invoke]
    simpa [LoopS.at] using hy
  refine ⟨fun _ _ => trivial, ?_⟩
  rw [semFW (.inr rfl), hrun]
  refine ⟨FW_depth, roundIn_of_wpIn trivial ?_⟩
  rw [has, hbd]
  have hp0 := hp
  unfold Sto.push at hp
  obtain ⟨c, hc, rfl⟩ := Option.map_eq_some_iff.1 hp
  have hobj := (hr.objs 0 c hc).1 rfl
  let L0r : Lay := { L0.with (a.tmps.toList ++ L.hid) ((r.l, .loop (r.at 0)) :: (L0.kp ++ markObjs a.defers)) with rd := some r.l }
  have hr1 : Rel W0 L0r (L.with (a.tmps.toList ++ L.hid) []) (setPs sn ps (args.toList.map (aval e))) (s.upd 0 (e ++ c)) w { tmps := (r.params.zip (args.map a.eval)).foldl (fun tmps (t, a) => tmps.setIfInBounds t a) r.tm, defers := [] } := by
    refine hr.hide (L0' := L0r) (a' := { tmps := (r.params.zip (args.map a.eval)).foldl (fun tmps (t, a) => tmps.setIfInBounds t a) r.tm, defers := [] }) (by simp [hc]) (areps_append hr.slots hobj) ⟨[], rfl, rfl⟩ ⟨by simp [marks], by simp [marks]⟩ (by simp [marks]) (fun b o h => ?_) (fun l h => ?_) ?_ (fun _ => rfl) (.inr ?_) (fun g => ?_)
    · rcases List.mem_cons.1 h with h | h
      · cases h; exact ⟨⟨_, hheap, likeObj.refl _⟩, hown⟩
      · rcases List.mem_append.1 h with h | h
        · exact hr.kept b o h
        · obtain ⟨q, h1, h2⟩ := List.mem_map.1 h
          cases h2
          exact ⟨⟨_, (hr.mks.2 _ h1).1, rfl⟩, (hr.mks.2 _ h1).2⟩
    · cases h; exact ⟨_, List.mem_cons_self⟩
    · have := setPs_rep (ps := ps) hsn hargs
      rw [← hps] at this ⊢
      rw [← Array.foldl_toList, Array.toList_zip]
      exact this
    · have hl := hr.slots.length
      show a.tmps.toList ++ L.hid ≠ []
      intro hn
      rw [(List.append_eq_nil_iff.1 hn).1] at hl
      simp at hl; omega
    · rw [Sto.get_upd]
      by_cases h : 0 = g
      · subst h; simp [hc]
      · simp [h]
  refine Code.wpIn_mono ?_ (pwp_sound hC hm as hoa h W0 L0r _ w _ hr1)
  rintro x1 a1 w1 ⟨L1, e1, s1, hr2, hq⟩
  cases x1 with
  | normal =>
    unfold begunK at hq
    simp only at hq
    split at hq
    case h_2 => exact hq.elim
    rename_i hd1 sn1 hs1
    obtain ⟨rfl, hq⟩ := hq
    have hk1 : L1.lk g = some r := by rw [hr2.lke]; exact hk0
    refine ⟨_, run_beginRound (loop_at hr2 hk1 hs1).2.1 rfl, ?_⟩
    have hr3 := hr2.turn (z' := 1) hk1 hs1
    refine Code.wpIn_mono ?_ (pwp_sound hC hm bd hob hq W0 L0r _ _ _ hr3)
    rintro x2 a2 w2 ⟨L2, e2, s2, hr4, hq2⟩
    have hk2 : L2.lk g = some r := by rw [hr4.lke]; exact hk0
    have fin : ∀ (z : Int) (jump : Option Code), ({ r.at 1 with state := if jump.isNone then .ready else .done, pending := jump } : Loop) = r.at z → roundF g e.length s.hidn z jump.isNone K s2 → ∃ v w', (Instr.endRound r.l jump).run P w2 = .ok v w' ∧ (∃ L e s r, Rel W0 L0 L (eset e dst r) s w' (a.put dst v) ∧ K r e s) := by
      rintro z jump hz ⟨h0, hq⟩
      split at hq
      case h_2 => exact hq.elim
      rename_i hd2 sn2 hs2
      obtain ⟨rfl, hq⟩ := hq
      refine ⟨_, _, run_endRound jump (loop_at hr4 hk2 hs2).2.1, ?_⟩
      rw [hz]
      have hr5 := hr4.turn (z' := z) hk2 hs2
      have hr6 := rel_pull' (L0 := L0) (a := a) (Lh := L.hid) (n := e.length) (m := s.hidn) (kp := []) hr5 rfl (fun x h => List.mem_cons_of_mem _ h) rfl (fun _ => rfl) hr.slots.length (hid_len hr hp0) hr.hid hr.rd hr.rdk hr.mks.1 hr.mkb (by simpa [Sto.hidn, get0_upd hg] using h0)
      have e1 : (s2.upd g (zcell z :: sn2)).top e.length = s2.top e.length := by simp [Sto.top, get0_upd hg]
      have e2 : (s2.upd g (zcell z :: sn2)).pull e.length = (s2.pull e.length).upd g (zcell z :: sn2) := by
        unfold Sto.pull; rw [get0_upd hg, Sto.upd_comm hg]
      rw [e1, e2] at hr6
      exact ⟨_, _, _, _, hr6.put dst (x := .d (.v (.bool jump.isNone))) rfl, hq⟩
    cases x2 with
    | normal => exact fin 0 none rfl hq2
    | ret => exact fin (-1) (some .ret) rfl hq2
    | exit id =>
      refine fin ((id : Int) + 2) (some (.exit id)) ?_ hq2
      simp only [LoopS.at, lstate_exit]; rfl
    | goto l =>
      refine fin (-((l : Int) + 2)) (some (.goto l)) ?_ hq2
      simp only [LoopS.at, lstate_goto]; rfl
    | panic ch => exact hq2.elim
    | outgrown => exact hq2.elim
  | exit i => exact hq.elim
  | goto l => exact hq.elim
  | ret => exact hq.elim
  | panic ch => exact hq.elim
  | outgrown => exact hq.elim

/-- A round, for a table: with the tables of the function that the loop stands in. -/
def yldE (P : Program) (C : CT) (O : Nat → Sch) (tb : Nat) : Nat → List Nat → Code → Code → List AV → (AV → List AV → Sto → Prop) → Kt → List AV → Sto → Prop := fun g ps as bd args K _ e s => (okO O as = true ∧ okO O bd = true) ∧ yldP P C O tb g ps as bd args K e s
theorem yldE_ok {P : Program} {C : CT} {O : Nat → Sch} {tb : Nat} (hC : C.ok P) (hm : P.follows .mixedOrders = true) {g : Nat} {ps : List Nat} {as bd : Code} {args : List AV} {K : AV → List AV → Sto → Prop} {Q : Kt} {e : List AV} {s : Sto} (h : yldE P C O tb g ps as bd args K Q e s) : pyld P g ps as bd args K Q e s :=
  yld_sound hC hm h.1.1 h.1.2 h.2

/-! The same as equations. -/
def xRd (g n m : Nat) (K : AV → List AV → Sto → Prop) (_ : At K) : Kt := fun x e s => roundK g n m K x e s
def xBg (P : Program) (C : CT) (O : Nat → Sch) (tb g : Nat) (bd : Code) (Q : Kt) (_ : At bd) (_ : At Q) : Kt := fun x e s => begunK P C O tb g bd Q x e s
/-- What follows at a loop's entry. -/
def zK (o : Option (List AV)) (z : Int) (k : List AV → Prop) (_ : At k) : Prop := match o with | some (h :: sn) => h = zcell z ∧ k sn | _ => False
theorem z_c {h : AV} {sn : List AV} {z : Int} {k : List AV → Prop} {m : At k} : zK (some (h :: sn)) z k m = (h = zcell z ∧ k sn) := id rfl
def xJp (z : Int) (Q : Kt) (_ : At Q) (e : List AV) (s : Sto) : Prop := jumpK z Q e s
def xRg (G : Nat) (Q : Kt) (_ : At Q) (e : List AV) (s : Sto) : Prop := rngK G Q e s
def jK (o : Option (List AV)) (Q : Kt) (_ : At Q) (e : List AV) (s : Sto) : Prop := match o with | some (.d (.v (.int .i64 z)) :: _) => jumpK z Q e s | _ => False
section
variable {P : Program} {C : CT} {O : Nat → Sch} {tb : Nat} {Q : Kt} {e : List AV} {s : Sto}
/-- A range over a function: shown by rules of its own. -/
def xRF (P : Program) (f : Operand) (ps : Array Nat) (as bd : Code) (Q : Kt) (_ : At as) (_ : At bd) (_ : At Q) (e : List AV) (s : Sto) : Prop := psem P (.rangeFunc f ps as bd) Q e s
theorem w_rng {f : Operand} {ps : Array Nat} {as bd : Code} {i : At (Code.rangeFunc f ps as bd)} {j : At Q} : xW P C O tb (.rangeFunc f ps as bd) Q i j e s = xRF P f ps as bd Q (mk _) (mk _) (mk _) e s := id rfl
/-- With the tag G; behind it, the slots and the store are e and s but for E1 and S1. -/
def updAll : Sto → List (Nat × List AV) → Sto
  | s, [] => s
  | s, (g, c) :: r => updAll (s.upd g c) r
theorem rng_cut {f : Operand} {ps : Array Nat} {as bd : Code} {i1 : At as} {i2 : At bd} {j : At Q} (hC : C.ok P) (G : Nat) (E1 : List (Nat × AV)) (S1 : List (Nat × List AV))
    (h : (((1000000000 ≤ G ∧ G < 2000000000) ∧ AV.mens G e = false ∧ s.mens G = false ∧ s.get G = none) ∧ xCo C (target P (aval e f) [.yld G ps.toList as bd]) (fun _ e' s' => xRg G (xS (fun e' s' => wk e' (setAll e E1) ∧ wkG s' (updAll s S1)) Q (mk _) (mk _)) (mk _) e' s') noK (mk _) (mk _) e (s.ins G (zcell 0 :: e))))
    (hQ : Q .normal (setAll e E1) (updAll s S1)) : xRF P f ps as bd Q i1 i2 j e s := fun W0 L0 L w a hr => by
  have := rng_sound (P := P) (C := C) hC.f (G := G) (f := f) (ps := ps) (as := as) (bd := bd) (Q := xS (fun e' s' => wk e' (setAll e E1) ∧ wkG s' (updAll s S1)) Q (mk _) (mk _)) h W0 L0 L w a hr
  refine Code.wpIn_mono (fun x a w ⟨L, e', s', h1, h2⟩ => ?_) this
  cases x with
  | normal => exact ⟨L, _, _, h1.weaken (wk_Wk h2.1) (wkG_get h2.2), hQ⟩
  | _ => exact ⟨L, e', s', h1, h2⟩
theorem rg_eq {G : Nat} {j : At Q} : xRg G Q j e s = jK (s.get G) Q (mk _) (e.map (AV.kill G)) (s.kill G) := id rfl
theorem j_z {z : Int} {l : List AV} {j : At Q} : jK (some (.d (.v (.int .i64 z)) :: l)) Q j e s = xJp z Q (mk _) e s := id rfl
theorem jp_0 {j : At Q} : xJp 0 Q j e s = Q .normal e s := id rfl
theorem jp_1 {j : At Q} : xJp (-1) Q j e s = Q .ret e s := id rfl
theorem jp_x {n : Nat} {j : At Q} : xJp ((n : Int) + 2) Q j e s = Q (.exit n) e s := by
  unfold xJp jumpK
  rw [if_neg (by omega), if_neg (by omega), if_pos (by omega), show ((n : Int) + 2 - 2).toNat = n by omega]
theorem jp_g {n : Nat} {j : At Q} : xJp (-((n : Int) + 2)) Q j e s = Q (.goto n) e s := by
  unfold xJp jumpK
  rw [if_neg (by omega), if_neg (by omega), if_neg (by omega), if_pos (by omega), show (-(-((n : Int) + 2)) - 2).toNat = n by omega]
theorem zc (z : Int) : zcell z = .d (.v (.int .i64 z)) := id rfl
variable {g n m : Nat} {K : AV → List AV → Sto → Prop}
theorem rd_n {j : At K} : xRd g n m K j .normal e s = (((s.get 0).isSome = true ∧ s.hidn = n + m) ∧ zK (s.get g) 1 (fun sn => K (.d (.v (.bool true))) (s.top n) ((s.pull n).upd g (zcell 0 :: sn))) (mk _)) := by
  simp only [xRd, roundK, roundF, zK]
theorem rd_r {j : At K} : xRd g n m K j .ret e s = (((s.get 0).isSome = true ∧ s.hidn = n + m) ∧ zK (s.get g) 1 (fun sn => K (.d (.v (.bool false))) (s.top n) ((s.pull n).upd g (zcell (-1) :: sn))) (mk _)) := by
  simp only [xRd, roundK, roundF, zK]
theorem rd_x {j : At K} {id' : Nat} : xRd g n m K j (.exit id') e s = (((s.get 0).isSome = true ∧ s.hidn = n + m) ∧ zK (s.get g) 1 (fun sn => K (.d (.v (.bool false))) (s.top n) ((s.pull n).upd g (zcell ((id' : Int) + 2) :: sn))) (mk _)) := by
  simp only [xRd, roundK, roundF, zK]
theorem bg_n {bd : Code} {i : At bd} {j : At Q} : xBg P C O tb g bd Q i j .normal e s = zK (s.get g) 0 (fun sn => xW P C O tb bd Q (mk _) (mk _) e (s.upd g (zcell 1 :: sn))) (mk _) := by
  simp only [xBg, begunK, zK, xW]
theorem qd_Rd {l : List Oper} {j : At K} {m1 : At l} {k} : xQd l (xRd g n m K j) m1 k = True := propext ⟨fun _ => trivial, fun _ c e s d _ h => h.elim⟩
theorem qd_Bg {l : List Oper} {bd : Code} {i : At bd} {j : At Q} {m1 : At l} {k} : xQd l (xBg P C O tb g bd Q i j) m1 k = True := propext ⟨fun _ => trivial, fun _ c e s d _ h => h.elim⟩
def okb (O : Nat → Sch) (as bd : Code) : Bool := okO O as && okO O bd
theorem okb_ok {O : Nat → Sch} {as bd : Code} (h : id (okb O as bd) = true) : okb O as bd = true := h
end
theorem xyld {P : Program} (C C' : CT) (O : Nat → Sch) (tb g : Nat) (Y : Nat → List Nat → Code → Code → List AV → (AV → List AV → Sto → Prop) → Kt → List AV → Sto → Prop) (hY : C.y = Y) (ps : List Nat) (as bd : Code) (hE : Y g ps as bd = yldE P C' O tb g ps as bd) {args : List AV} {K : AV → List AV → Sto → Prop} {Q : Kt} {e : List AV} {s : Sto} {i1 : At as} {i2 : At bd} {i3 : At K} {i4 : At Q} (h : okb O as bd = true) :
    xYl C g ps as bd args K Q i1 i2 i3 i4 e s = zK (s.get g) 0 (fun sn => oK (s.push e) (fun s1 => (ps.length = args.length ∧ 0 < e.length) ∧ xW P C' O tb as (xBg P C' O tb g bd (xRd g e.length s.hidn K (mk _)) (mk _) (mk _)) (mk _) (mk _) (setPs sn ps args) s1) (mk _)) (mk _) := by
  unfold xYl; rw [hY, hE]
  simp only [okb, Bool.and_eq_true] at h
  simp only [yldE, h, and_self, true_and, yldP, zK, oK]
  cases h1 : s.get g with
  | none => rfl
  | some c =>
    cases c with
    | nil => rfl
    | cons x sn =>
      cases h2 : s.push e with
      | none => simp
      | some s1 => exact propext ⟨fun ⟨⟨q1, q2, q3⟩, q4⟩ => ⟨q1, ⟨q2, q3⟩, q4⟩, fun ⟨q1, ⟨q2, q3⟩, q4⟩ => ⟨⟨q1, q2, q3⟩, q4⟩⟩
end Go.E

namespace Go.E
open Go Go.RowKit

/-! ### A call that may touch some tags alone: the callers' other state stays -/
mutual
/-- Speaks of none but these tags. -/
def AV.only (T : List Nat) : AV → Bool
  | .any => true
  | .d _ => true
  | .own g _ _ _ => T.contains g
  | .eref g _ _ _ _ _ => T.contains g
  | .ref g _ => T.contains g
  | .mp g => T.contains g
  | .yld _ _ _ _ => false
  | .tup xs => AV.onlys T xs
  | .agg xs => AV.onlys T xs
  | .clo _ x y => AV.onlys T x && AV.onlys T y
  | .iface _ x => x.only T
def AV.onlys (T : List Nat) : List AV → Bool
  | [] => true
  | x :: xs => x.only T && AV.onlys T xs
end
/-- The store behind the call: what bears the tags of T, as the callee left it. -/
def mer (T : List Nat) (s1 : Sto) : Sto → Sto
  | [] => []
  | (g, c) :: r => if T.contains g = true then (match s1.get g with | some c' => (g, c') :: mer T s1 r | none => mer T s1 r) else (g, c) :: mer T s1 r
theorem mer_get {T : List Nat} {s1 : Sto} {g : Nat} {c : List AV} : ∀ {s : Sto}, (mer T s1 s).get g = some c → (T.contains g = true ∧ s1.get g = some c) ∨ (T.contains g = false ∧ s.get g = some c)
  | [], h => by simp [mer, Sto.get] at h
  | (k, x) :: r, h => by
    unfold mer at h
    split at h
    · rename_i hk
      split at h
      · rename_i c' hc'
        simp only [Sto.get] at h
        split at h
        · rename_i e; subst e; cases h; exact .inl ⟨hk, hc'⟩
        · rename_i hne
          rcases mer_get h with q | ⟨q1, q2⟩
          · exact .inl q
          · exact .inr ⟨q1, by simp [Sto.get, hne, q2]⟩
      · rcases mer_get h with q | ⟨q1, q2⟩
        · exact .inl q
        · exact .inr ⟨q1, by
            have hne : k ≠ g := fun e => by rw [e] at hk; rw [hk] at q1; cases q1
            simp [Sto.get, hne, q2]⟩
    · rename_i hk
      simp only [Sto.get] at h
      split at h
      · rename_i e; subst e; cases h; exact .inr ⟨by simpa using hk, by simp [Sto.get]⟩
      · rename_i hne
        rcases mer_get h with q | ⟨q1, q2⟩
        · exact .inl q
        · exact .inr ⟨q1, by simp [Sto.get, hne, q2]⟩

/-- What of E is at hand. -/
def avail (e : List AV) (s : Sto) (x : AV) : Prop :=
  x ∈ e ∨ (∃ g c, g ≠ 0 ∧ s.get g = some c ∧ x ∈ c) ∨ match x with
    | .ref g off => off = 0 ∧ g < 1000000000
    | .mp g => 2000000000 ≤ g
    | _ => False

theorem AReps.mem {L : Lay} {w : World} : ∀ {xs : List AV} {us : List Value} {x : AV}, AReps L w xs us → x ∈ xs → ∃ u, ARep L w x u
  | [], _, _, _, h => by cases h
  | y :: ys, _, x, ⟨u, ut, e, k1, k2⟩, h => by
    rcases List.mem_cons.1 h with rfl | h
    · exact ⟨u, k1⟩
    · exact AReps.mem k2 h
theorem avail_rep {W0 : World} {L0 L : Lay} {e : List AV} {s : Sto} {w : World} {a : Act} (hr : Rel W0 L0 L e s w a) {x : AV} (h : avail e s x) : ∃ u, ARep L w x u := by
  have hlk : ∀ g, (g < 1000000000 ∨ 2000000000 ≤ g) → L.lk g = none := fun g hg => by
    cases h : L.lk g with
    | none => rfl
    | some r => have := (hr.lkb g r (by rw [← hr.lke, h])).1; omega
  rcases h with h | ⟨g, c, h0, h1, h2⟩ | h
  · exact AReps.mem hr.slots h
  · obtain ⟨vs, _, q⟩ := (hr.objs g c h1).2 h0
    exact AReps.mem q h2
  · cases x with
    | ref g off => obtain ⟨rfl, h⟩ := h; exact ⟨_, rfl, hlk g (.inl h), by omega⟩
    | mp g => exact ⟨_, rfl, hlk g (.inr h), h⟩
    | _ => exact h.elim
theorem avail_reps {W0 : World} {L0 L : Lay} {e : List AV} {s : Sto} {w : World} {a : Act} (hr : Rel W0 L0 L e s w a) : ∀ {E : List AV}, (∀ x ∈ E, avail e s x) → ∃ us, AReps L w E us
  | [], _ => ⟨[], rfl⟩
  | x :: E, h => by
    obtain ⟨u, hu⟩ := avail_rep hr (h x (by simp))
    obtain ⟨us, hus⟩ := avail_reps hr (E := E) fun y hy => h y (by simp [hy])
    exact ⟨u :: us, u, us, rfl, hu, hus⟩
theorem AReps.of_mem {L L' : Lay} {w w' : World} {x : AV} : ∀ {E : List AV} {us : List Value}, x ∈ E → AReps L w E us → AReps L' w' E us → ∃ u, ARep L w x u ∧ ARep L' w' x u
  | [], _, h, _, _ => by cases h
  | y :: E, us, h, ⟨u, ut, e, k1, k2⟩, ⟨u', ut', e', k1', k2'⟩ => by
    rw [e] at e'
    obtain ⟨rfl, rfl⟩ := List.cons.inj e'
    rcases List.mem_cons.1 h with rfl | h
    · exact ⟨u, k1, k1'⟩
    · exact AReps.of_mem h k2 k2'

/-- From one layout to another, what speaks of T alone. -/
structure Onto (T : List Nat) (L : Lay) (w : World) (L' : Lay) (w' : World) : Prop where
  mem : (L.mem w).le (L'.mem w')
  row : ∀ g e s rows u, T.contains g = true → OwnRow L w g e s rows u → OwnRow L' w' g e s rows u
  blk : ∀ g, T.contains g = true → L'.blk g = L.blk g
  hdr : ∀ g, T.contains g = true → L'.hdr g = L.hdr g
  lk : ∀ g, T.contains g = true → L'.lk g = none
mutual
theorem AV.only_rep {T : List Nat} {L L' : Lay} {w w' : World} (h : Onto T L w L' w') : ∀ (x : AV) (u : Value), x.only T = true → ARep L w x u → ARep L' w' x u
  | .any, _, _, _ => trivial
  | .d x, u, _, hr => DRep.mono h.mem x u hr
  | .own g _ s rows, u, hm, ⟨e, hr⟩ => ⟨by rw [h.hdr g hm]; exact e, h.row _ _ _ _ _ hm hr⟩
  | .eref g _ s rows i off, u, hm, ⟨hr, hi, b, n, c, e1, e2⟩ => ⟨by rw [h.hdr g hm]; exact h.row _ _ _ _ _ hm hr, hi, b, n, c, by rw [h.hdr g hm]; exact e1, e2⟩
  | .ref g off, u, hm, e => ⟨by rw [h.blk g hm]; exact e.1, h.lk g hm, e.2.2⟩
  | .mp g, u, hm, e => ⟨by rw [h.blk g hm]; exact e.1, h.lk g hm, e.2.2⟩
  | .tup xs, _, hm, ⟨us, e, k1⟩ => ⟨us, e, AV.onlys_rep h xs _ hm k1⟩
  | .agg xs, _, hm, ⟨us, e, k1⟩ => ⟨us, e, AV.onlys_rep h xs _ hm k1⟩
  | .clo _ x y, _, hm, ⟨xs, ys, e, k1, k2⟩ => by
    simp only [AV.only, Bool.and_eq_true] at hm
    exact ⟨xs, ys, e, AV.onlys_rep h x _ hm.1 k1, AV.onlys_rep h y _ hm.2 k2⟩
  | .iface _ x, _, hm, ⟨y, e, k1⟩ => ⟨y, e, AV.only_rep h x y hm k1⟩
  | .yld _ _ _ _, _, hm, _ => by simp [AV.only] at hm
theorem AV.onlys_rep {T : List Nat} {L L' : Lay} {w w' : World} (h : Onto T L w L' w') : ∀ (xs : List AV) (us : List Value), AV.onlys T xs = true → AReps L w xs us → AReps L' w' xs us
  | [], _, _, hr => hr
  | x :: xs, _, hm, ⟨u, ut, e, k1, k2⟩ => by
    simp only [AV.onlys, Bool.and_eq_true] at hm
    exact ⟨u, ut, e, AV.only_rep h x u hm.1 k1, AV.onlys_rep h xs ut hm.2 k2⟩
end
def cleanT (T : List Nat) : Option Nat → Option Nat
  | none => none
  | some g => if T.contains g = true then some g else some 0
theorem cleanT_none {T : List Nat} {o : Option Nat} : cleanT T o = none ↔ o = none := by
  cases o with
  | none => simp [cleanT]
  | some g => simp only [cleanT]; split <;> simp
theorem cleanT_some {T : List Nat} {g : Nat} (h : T.contains g = true) : cleanT T (some g) = some g := by simp only [cleanT]; rw [if_pos h]

/-- What is to be shown of the state that a callee is handed. -/
structure FrameOk (T : List Nat) (E args : List AV) (s0 : Sto) (e : List AV) (s : Sto) : Prop where
  tags : ∀ g ∈ T, g ≠ 0 ∧ (g < 1000000000 ∨ 2000000000 ≤ g)
  sub : ∀ g c, s0.get g = some c → T.contains g = true ∧ s.get g = some c ∧ AV.onlys T c = true
  args : AV.onlys T args = true
  eo : AV.onlys T E = true
  av : ∀ x ∈ E, avail e s x
  slots : AV.stays T E e
  others : ∀ g c, s.get g = some c → T.contains g = false → AV.stays T E c

theorem pcall_frame {P : Program} {f : Nat} {T : List Nat} {E args : List AV} {s0 : Sto} {e : List AV} {s : Sto} {R : AV → Sto → Prop} {RQ : List PanicEntry → Sto → Prop} {K : AV → List AV → Sto → Prop} {Q : Exit → List AV → Sto → Prop}
    (hF : FrameOk T E args s0 e s) (h : pcall P f args (fun r e1 s1 => e1 = E ∧ R r s1) (fun x e1 s1 => e1 = E ∧ match x with | .panic c => RQ c s1 | _ => False) E ((0, []) :: s0))
    (hK : ∀ r s1, R r s1 → (r.only T = true ∧ ∀ g c, T.contains g = true → s1.get g = some c → AV.onlys T c = true) ∧ K r e (mer T s1 s))
    (hQ : ∀ c s1, RQ c s1 → (∀ g c, T.contains g = true → s1.get g = some c → AV.onlys T c = true) ∧ Q (.panic c) e (mer T s1 s)) : pcall P f args K Q e s := by
  refine ⟨h.1, fun W0 L0 L w a vs hr ha => ?_⟩
  have h0T : T.contains 0 = false := by
    cases h0 : T.contains 0 with
    | false => rfl
    | true => exact absurd rfl (hF.tags 0 (by simpa using h0)).1
  have hlk : ∀ g, T.contains g = true → L.lk g = none := fun g hg => by
    cases h : L.lk g with
    | none => rfl
    | some r => have := (hr.lkb g r (by rw [← hr.lke, h])).1; have := (hF.tags g (by simpa using hg)).2; omega
  let L1 : Lay := { own := fun b => cleanT T (L.own b), blk := L.blk, hdr := L.hdr, hid := [], rd := none, kp := [], lk := fun _ => none }
  have h01 : Onto T L w L1 w :=
    { mem := look_le fun b hb _ => ⟨by simp only [L1, hb, cleanT], rfl⟩
      row := fun g e s rows u hg ⟨xs, q1, q2, q3, q4, q5⟩ => ⟨xs, q1, fun b hb => by simp only [L1, q2 b hb]; exact cleanT_some hg, q3, q4, DReps.mono (look_le fun b hb _ => ⟨by simp only [L1, hb, cleanT], rfl⟩) _ _ q5⟩
      blk := fun _ _ => rfl, hdr := fun _ _ => rfl, lk := fun _ _ => rfl }
  obtain ⟨us, hus⟩ := avail_reps hr hF.av
  have hr1 : Rel w L1 L1 E ((0, []) :: s0) w { tmps := us.toArray, defers := [] } :=
    { slots := by simpa using AV.onlys_rep h01 _ _ hF.eo hus
      hid := ⟨[], rfl, rfl⟩
      mks := ⟨by simp [marks], by simp [marks]⟩
      mkb := by simp [marks]
      kept := fun b o hb => by cases hb
      rdk := fun l hb => by cases hb
      lke := rfl
      lkb := fun g r hg => by cases hg
      lki := fun g g' r r' hg => by cases hg
      rd := .inl rfl
      objs := fun g c hg => by
        simp only [Sto.get] at hg
        split at hg
        · rename_i e0; subst e0; cases hg; exact ⟨fun _ => rfl, fun h => absurd rfl h⟩
        · rename_i hg0
          obtain ⟨q1, q2, q3⟩ := hF.sub g c hg
          refine ⟨fun h => absurd h.symm hg0, fun hne => ?_⟩
          obtain ⟨ws, k1, k2⟩ := (hr.objs g c q2).2 hne
          refine ⟨ws, ?_, AV.onlys_rep h01 _ _ q3 k2⟩
          unfold Held at k1 ⊢
          rw [hlk g q1] at k1
          exact ⟨by simp only [L1]; rw [k1.1]; exact cleanT_some q1, k1.2⟩
      old := fun _ _ _ => ⟨rfl, rfl⟩
      size := Nat.le_refl _
      own_lt := fun b g hb => by
        simp only [L1] at hb
        cases ho : L.own b with
        | none => rw [ho] at hb; cases hb
        | some g' => exact hr.own_lt b g' ho
      os := rfl, tape := rfl, output := rfl }
  have main : ∀ (L2 : Lay) (s1 : Sto) (w2 : World) (a2 : Act), Rel w L1 L2 E s1 w2 a2 → a2 = { tmps := us.toArray, defers := [] } → (∀ g c, T.contains g = true → s1.get g = some c → AV.onlys T c = true) →
      ∃ L3, Rel W0 L0 L3 e (mer T s1 s) w2 a ∧ Onto T L2 w2 L3 w2 := fun L2 s1 w2 a2 hr2 ha2 hT => by
    subst ha2
    let L3 : Lay := { L with
      own := fun b => if b < w.heap.size ∧ ∀ g, L.own b = some g → T.contains g = false then L.own b else cleanT T (L2.own b),
      blk := fun g => if T.contains g = true then L2.blk g else L.blk g
      hdr := fun g => if T.contains g = true then L2.hdr g else L.hdr g }
    have hold : ∀ b, b < w.heap.size → (∀ g, L.own b = some g → T.contains g = false) → L2.own b = cleanT T (L.own b) ∧ w2.heap[b]? = w.heap[b]? := fun b hb hg => by
      refine hr2.old b hb ?_
      simp only [L1]
      cases ho : L.own b with
      | none => exact .inl rfl
      | some g => right; simp only [cleanT]; rw [hg g ho]; simp
    have hclean : ∀ b, b < w.heap.size → (∀ g, L.own b = some g → T.contains g = false) → ∀ g, T.contains g = true → L2.own b ≠ some g := fun b hb hn g hg he => by
      rw [(hold b hb hn).1] at he
      cases ho : L.own b with
      | none => rw [ho] at he; cases he
      | some g' =>
        rw [ho] at he; simp only [cleanT] at he
        rw [hn g' ho] at he
        simp at he; subst he
        rw [h0T] at hg; cases hg
    have hown : ∀ b g, T.contains g = true → L2.own b = some g → L3.own b = some g := fun b g hg he => by
      simp only [L3]
      split
      · rename_i hc; exact absurd he (hclean b hc.1 hc.2 g hg)
      · rw [he]; exact cleanT_some hg
    have h23 : Onto T L2 w2 L3 w2 := by
      have hm : (L2.mem w2).le (L3.mem w2) := look_le fun b hb _ => ⟨by
        simp only [L3]
        split
        · rename_i hc
          have := (hold b hc.1 hc.2).1
          rw [hb] at this
          exact cleanT_none.1 this.symm
        · rw [hb]; rfl, rfl⟩
      exact
        { mem := hm
          row := fun g e s rows u hg ⟨xs, q1, q2, q3, q4, q5⟩ => ⟨xs, q1, fun b hb => hown b g hg (q2 b hb), q3, q4, DReps.mono hm _ _ q5⟩
          blk := fun g hg => by simp only [L3]; rw [if_pos hg]
          hdr := fun g hg => by simp only [L3]; rw [if_pos hg]
          lk := fun g hg => hlk g hg }
    have hheap : ∀ b, b < w.heap.size → (∀ g, L.own b = some g → T.contains g = false) → w2.heap[b]? = w.heap[b]? ∧ L3.own b = L.own b := fun b hb hn => ⟨(hold b hb hn).2, by simp only [L3]; rw [if_pos ⟨hb, hn⟩]⟩
    have hst : Stays T E L w L3 w2 :=
      { heap := hheap
        blk := fun g hg => by simp only [L3]; rw [hg]; simp
        hdr := fun g hg => by simp only [L3]; rw [hg]; simp
        lk := rfl
        E := fun x hx => AReps.of_mem hx hus (by simpa using AV.onlys_rep h23 _ _ hF.eo hr2.slots) }
    have h0 : ∀ b, L.own b = some 0 → ∀ g, L.own b = some g → T.contains g = false := fun b hb g hg => by rw [hb] at hg; cases hg; exact h0T
    refine ⟨L3, ?_, h23⟩
    exact
      { slots := AV.stays_rep hst _ _ hF.slots hr.slots
        hid := hr.hid
        mks := ⟨hr.mks.1, fun r hr' => by
          obtain ⟨q1, q2⟩ := hr.mks.2 r hr'
          have := hheap r (lt_of_heap q1) (h0 r q2)
          exact ⟨this.1.trans q1, this.2.trans q2⟩⟩
        mkb := hr.mkb
        kept := fun b o hb => by
          obtain ⟨⟨o', q1, q3⟩, q2⟩ := hr.kept b o hb
          have := hheap b (lt_of_heap q1) (h0 b q2)
          exact ⟨⟨o', this.1.trans q1, q3⟩, this.2.trans q2⟩
        rdk := hr.rdk
        lke := hr.lke
        lkb := fun g r hg => ⟨(hr.lkb g r hg).1, (hr.lkb g r hg).2.1, Nat.lt_of_lt_of_le (hr.lkb g r hg).2.2 hr2.size⟩
        lki := hr.lki
        rd := hr.rd
        objs := fun g c hg => by
          rcases mer_get hg with ⟨q1, q2⟩ | ⟨q1, q2⟩
          · have hg0 : g ≠ 0 := (hF.tags g (by simpa using q1)).1
            obtain ⟨ws, k1, k2⟩ := (hr2.objs g c q2).2 hg0
            refine ⟨fun h => absurd h hg0, fun _ => ⟨ws, ?_, AV.onlys_rep h23 _ _ (hT g c q1 q2) k2⟩⟩
            unfold Held at k1 ⊢
            rw [show L2.lk g = none by rw [hr2.lke]] at k1
            rw [show L3.lk g = none from hlk g q1]
            have hb : L3.blk g = L2.blk g := h23.blk g q1
            refine ⟨by rw [hb]; exact hown _ g q1 k1.1, ?_⟩
            have := k1.2
            unfold HeldB at this ⊢
            rw [hb]; exact this
          · refine ⟨fun h => AV.stays_rep hst _ _ (hF.others g c q2 q1) ((hr.objs g c q2).1 h), fun hg0 => ?_⟩
            obtain ⟨ws, k1, k2⟩ := (hr.objs g c q2).2 hg0
            exact ⟨ws, k1.congr rfl (fun _ => hst.blk g q1) (fun b hb ho => hheap b hb fun g' hg' => by
              rcases ho with ho | ho <;> rw [ho] at hg' <;> cases hg'
              · exact q1
              · exact h0T), AV.stays_rep hst _ _ (hF.others g c q2 q1) k2⟩
        old := fun b hb h1 => by
          have q := hr.old b hb h1
          have := hheap b (Nat.lt_of_lt_of_le hb hr.size) (fun g hg => by
            rcases h1 with h1 | h1
            · rw [q.1, h1] at hg; cases hg
            · rw [q.1, h1] at hg; cases hg; exact h0T)
          exact ⟨this.2.trans q.1, this.1.trans q.2⟩
        size := Nat.le_trans hr.size hr2.size
        own_lt := fun b g hb => by
          simp only [L3] at hb
          split at hb
          · exact Nat.lt_of_lt_of_le (hr.own_lt b g hb) hr2.size
          · cases ho : L2.own b with
            | none => rw [ho] at hb; cases hb
            | some g' => exact hr2.own_lt b g' ho
        os := hr2.os.trans hr.os
        tape := hr2.tape.trans hr.tape
        output := hr2.output.trans hr.output }
  refine (h.2 w L1 L1 w _ vs hr1 (AV.onlys_rep h01 _ _ hF.args ha)).mono fun en w2 hen => ?_
  cases en with
  | returned v =>
    obtain ⟨L2, e1, s1, r, hr2, hrv, rfl, hR⟩ := hen
    obtain ⟨⟨q1, q2⟩, q3⟩ := hK r s1 hR
    obtain ⟨L3, k1, k2⟩ := main L2 s1 w2 _ hr2 rfl q2
    exact ⟨L3, e, _, r, k1, AV.only_rep k2 _ _ q1 hrv, q3⟩
  | panicked c =>
    obtain ⟨L2, e1, s1, hr2, rfl, hR⟩ := hen
    obtain ⟨q2, q3⟩ := hQ c s1 hR
    obtain ⟨L3, k1, k2⟩ := main L2 s1 w2 _ hr2 rfl q2
    exact ⟨L3, e, _, k1, q3⟩
  | outgrown => exact hen.elim
end Go.E

namespace Go.E
open Go Go.RowKit Go.Maps

/-! ### Maps, as equations -/
def xLk (c : List AV) (kv : Value) (R : Option D → Prop) (_ : At R) : Prop := lookS c kv R
def xUp (c : List AV) (kd : D) (kv : Value) (vd : D) (R : List AV → Prop) (_ : At R) : Prop := updS c kd kv vd R
def lkP (P : Program) (ok : Bool) (d : Option Nat) (am ak : AV) (T : Option (Nat × Nat)) (K : List AV → Sto → Prop) (_ : At K) (e : List AV) (s : Sto) : Prop :=
  match am, ak, T with
    | .mp g, .d kd, some (kt, et) => (match s.get g, kd.val? with
      | some c, some kv => (Keyed P kt ∧ zeroed P et = true ∧ (keyOf P kt kv).isSome = true) ∧ mapOk P kt c ∧ lookS c kv (fun r => K (eset e d (lookV (zeroA P et) ok r)) s)
      | _, _ => False)
    | _, _, _ => False
def upP (P : Program) (am ak av : AV) (T : Option (Nat × Nat)) (K : List AV → Sto → Prop) (_ : At K) (e : List AV) (s : Sto) : Prop :=
  match am, ak, av, T with
    | .mp g, .d kd, .d vd, some (kt, _) => (match s.get g, kd.val? with
      | some c, some kv => (Keyed P kt ∧ (keyOf P kt kv).isSome = true ∧ AV.mencs g e = false ∧ s.mencs g = false) ∧ mapOk P kt c ∧ updS c kd kv vd (fun c' => K e (s.upd g c'))
      | _, _ => False)
    | _, _, _, _ => False
section
variable {P : Program} {C : CT} {tb : Nat} {Q : Kt} {e : List AV} {s : Sto} {K : List AV → Sto → Prop} {d : Option Nat} {type : Nat} {pos : String} {af : Array Edge} {g : Option (Nat × Bool)}
theorem k_mkmap {t : Nat} {r : Option Operand} : k0 (.makeMap t r) = false := rfl
theorem k_lookup {t : Nat} {x y : Operand} {b : Bool} : k0 (.lookup t x y b) = false := rfl
theorem k_mapup {t : Nat} {x y z : Operand} : k0 (.mapUpdate t x y z) = false := rfl
theorem p_mkmap {d : Nat} {m2 : At K} {m3 : At Q} {t : Nat} {m1 : At (⟨some d, .makeMap t none, type, pos, af, g⟩ : Oper)} : xP P C tb ⟨some d, .makeMap t none, type, pos, af, g⟩ K Q m1 m2 m3 e s =
    K ((e.map (AV.kill (2000000000 + tb + d))).set d (.mp (2000000000 + tb + d))) ((s.kill (2000000000 + tb + d)).ins (2000000000 + tb + d) []) := id rfl
theorem p_lookup {m2 : At K} {m3 : At Q} {t : Nat} {m x : Operand} {ok : Bool} {m1 : At (⟨d, .lookup t m x ok, type, pos, af, g⟩ : Oper)} : xP P C tb ⟨d, .lookup t m x ok, type, pos, af, g⟩ K Q m1 m2 m3 e s = lkP P ok d (aval e m) (aval e x) (mapTy P t) K (mk _) e s := by
  simp only [xP, pop, lkP]
  generalize aval e m = x1; generalize aval e x = x2; generalize mapTy P t = x3
  cases x1 <;> cases x2 <;> first | rfl | (rcases x3 with _ | ⟨a, b⟩ <;> first | rfl | (generalize s.get _ = y1; generalize D.val? _ = y2; cases y1 <;> cases y2 <;> rfl))
theorem p_mapup {m2 : At K} {m3 : At Q} {t : Nat} {m x y : Operand} {m1 : At (⟨none, .mapUpdate t m x y, type, pos, af, g⟩ : Oper)} : xP P C tb ⟨none, .mapUpdate t m x y, type, pos, af, g⟩ K Q m1 m2 m3 e s = upP P (aval e m) (aval e x) (aval e y) (mapTy P t) K (mk _) e s := by
  simp only [xP, pop, upP]
  generalize aval e m = x1; generalize aval e x = x2; generalize aval e y = x4; generalize mapTy P t = x3
  cases x1 <;> cases x2 <;> cases x4 <;> first | rfl | (rcases x3 with _ | ⟨a, b⟩ <;> first | rfl | (simp only [true_and]; generalize s.get _ = y1; generalize D.val? _ = y2; cases y1 <;> cases y2 <;> rfl))
theorem lk_mp {G : Nat} {kd : D} {T : Option (Nat × Nat)} {ok : Bool} {m : At K} : lkP P ok d (.mp G) (.d kd) T K m e s =
    oK T (fun z => oK (s.get G) (fun c => oK kd.val? (fun kv => (Keyed P z.1 ∧ zeroed P z.2 = true ∧ (keyOf P z.1 kv).isSome = true) ∧ mapOk P z.1 c ∧ xLk c kv (fun r => K (eset e d (lookV (zeroA P z.2) ok r)) s) (mk _)) (mk _)) (mk _)) (mk _) := by
  unfold lkP oK xLk
  cases T with
  | none => rfl
  | some z => obtain ⟨a, b⟩ := z; simp only; cases s.get G <;> simp <;> cases kd.val? <;> simp
theorem up_mp {G : Nat} {kd vd : D} {T : Option (Nat × Nat)} {m : At K} : upP P (.mp G) (.d kd) (.d vd) T K m e s =
    oK T (fun z => oK (s.get G) (fun c => oK kd.val? (fun kv => (Keyed P z.1 ∧ (keyOf P z.1 kv).isSome = true ∧ AV.mencs G e = false ∧ s.mencs G = false) ∧ mapOk P z.1 c ∧ xUp c kd kv vd (fun c' => K e (s.upd G c')) (mk _)) (mk _)) (mk _)) (mk _) := by
  unfold upP oK xUp
  cases T with
  | none => rfl
  | some z => obtain ⟨a, b⟩ := z; simp only; cases s.get G <;> simp <;> cases kd.val? <;> simp
theorem lkv_some {z : AV} {v : D} : lookV z true (some v) = AV.mkTup [.d v, .b true] := id rfl
theorem lkv_none {z : AV} : lookV z true none = AV.mkTup [z, .b false] := id rfl
theorem lkv_some' {z : AV} {v : D} : lookV z false (some v) = .d v := id rfl
theorem lkv_none' {z : AV} : lookV z false none = z := id rfl
end

/-- A map whose entries are told by a list. -/
def ents {α β : Type} (fk : α → D) (fv : β → D) (M : List (α × β)) : List AV := M.map fun p => .d (.agg [fk p.1, fv p.2])
theorem ents_ok' {α β : Type} {P : Program} {kt : Nat} {fk : α → D} {fv : β → D} {fkv : α → Value} {M : List (α × β)} (hk : ∀ x, (fk x).val? = some (fkv x)) (h : ∀ p ∈ M, (keyOf P kt (fkv p.1)).isSome = true) : mapOk P kt (ents fk fv M) := fun x hx => by
  obtain ⟨p, hp, rfl⟩ := List.mem_map.1 hx
  exact ⟨_, _, _, rfl, hk _, h p hp⟩
theorem hasK_ents {α β : Type} {fk : α → D} {fv : β → D} {fkv : α → Value} {M : List (α × β)} (hk : ∀ x, (fk x).val? = some (fkv x)) {kv : Value} {v : D} : hasK (ents fk fv M) kv v ↔ ∃ p ∈ M, fkv p.1 = kv ∧ fv p.2 = v := by
  constructor
  · rintro ⟨kd, h1, h2⟩
    obtain ⟨p, hp, e⟩ := List.mem_map.1 h1
    simp only [AV.d.injEq, D.agg.injEq, List.cons.injEq, and_true] at e
    obtain ⟨rfl, rfl⟩ := e
    rw [hk] at h2
    exact ⟨p, hp, Option.some.inj h2, rfl⟩
  · rintro ⟨p, hp, rfl, rfl⟩
    exact ⟨fk p.1, List.mem_map.2 ⟨p, hp, rfl⟩, hk _⟩
theorem xLk_ents {α β : Type} {fk : α → D} {fv : β → D} {fkv : α → Value} {M : List (α × β)} (hk : ∀ x, (fk x).val? = some (fkv x)) (hi : ∀ x y, fkv x = fkv y → x = y) {k : α} {R : Option D → Prop} {m : At R} (h1 : ∀ v, (k, v) ∈ M → R (some (fv v))) (h2 : (∀ v, (k, v) ∉ M) → R none) : xLk (ents fk fv M) (fkv k) R m := by
  refine ⟨fun v hv => ?_, fun hn => h2 fun v hv => hn (fv v) ((hasK_ents hk).2 ⟨(k, v), hv, rfl, rfl⟩)⟩
  obtain ⟨p, hp, e1, rfl⟩ := (hasK_ents hk).1 hv
  have := hi _ _ e1
  subst this
  exact h1 _ hp
theorem xUp_ents {α β : Type} {fk : α → D} {fv : β → D} {fkv : α → Value} {M : List (α × β)} (hk : ∀ x, (fk x).val? = some (fkv x)) (hi : ∀ x y, fkv x = fkv y → x = y) {k : α} {v : β} {kd vd : D} (e1 : kd = fk k) (e2 : vd = fv v) {R : List AV → Prop} {m : At R} (h1 : ∀ M', (∀ p ∈ M', p ∈ M ∨ p = (k, v)) → R (ents fk fv M')) : xUp (ents fk fv M) kd (fkv k) vd R m := by
  subst e1; subst e2
  refine ⟨fun j kd' v' hj hv => ?_, fun _ => ?_⟩
  · have := h1 (M.set j (k, v)) fun p hp => by
      rcases List.mem_or_eq_of_mem_set hp with h | h
      · exact .inl h
      · exact .inr h
    simpa [ents, List.map_set] using this
  · have := h1 (M ++ [(k, v)]) fun p hp => by
      rcases List.mem_append.1 hp with h | h
      · exact .inl h
      · exact .inr (by simpa using h)
    simpa [ents] using this
end Go.E

namespace Go.E
open Go Go.RowKit Go.Maps

/-- A loop whose next state is told behind the round. -/
theorem loop_x {P : Program} {C : CT} {O : Nat → Sch} {tb : Nat} (hC : C.ok P) (hm : P.follows .mixedOrders = true) {c : Code} (ho : okO O c = true) {Q : Kt} {i : At c} {j : At Q} {e : List AV} {s : Sto} {σ : Type} (E : σ → List (Nat × AV)) (S : σ → Sto) (I : σ → Prop) (μ : σ → Nat) (x0 : σ)
    (h0 : I x0) (hw : wk e (setAll e (E x0)) ∧ wkG s (S x0))
    (round : ∀ x, I x → xW P C O tb c (xS (fun e' s' => ∃ y, (I y ∧ μ y < μ x) ∧ wk e' (setAll e (E y)) ∧ wkG s' (S y)) Q (mk _) (mk _)) (mk _) (mk _) (setAll e (E x)) (S x)) : xL P c Q i j e s :=
  fun W0 L0 L w a hr => by
  refine wpIn_loop_ghost (fun n a w => ∃ x, I x ∧ μ x = n ∧ ∃ L, Rel W0 L0 L (setAll e (E x)) (S x) w a) (μ x0) ⟨x0, h0, rfl, L, hr.weaken (wk_Wk hw.1) (wkG_get hw.2)⟩ ?_
  rintro n a w ⟨x, hx, rfl, L, hr⟩
  refine Code.wpIn_mono (lift_seq fun L e' s' a w h1 h2 => ?_) (pwp_sound hC hm c ho (round x hx) W0 L0 L w a hr)
  obtain ⟨y, h3, h4⟩ := h2
  exact ⟨μ y, h3.2, y, h3.1, rfl, L, h1.weaken (wk_Wk h4.1) (wkG_get h4.2)⟩

/-- A call, walked. -/
theorem pcall_start {P : Program} {C : CT} {O : Nat → Sch} {tb f : Nat} {fn : Func} {c : Code} {n : Nat} {rs : Array ResultVar} (hC : C.ok P) (hm : P.follows .mixedOrders = true) (ho : (fn.body.map (okO O)) = some true) (hf : P.funcs[f]? = some fn) (hc : callable P f = true) (hb : fn.body = some c) (hn : fn.ntmps = n) (hrs : fn.results = rs)
    {args : List AV} {K : AV → List AV → Sto → Prop} {Q : Kt} {e : List AV} {s : Sto}
    (h : oK (s.push e) (fun s1 => xW P C O tb c (xI P e.length s.hidn rs.toList K Q (mk _) (mk _) (mk _)) (mk _) (mk _) (args ++ List.replicate (n - args.length) .any) s1) (mk _)) : pcall P f args K Q e s := by
  unfold oK at h
  split at h
  · rename_i s1 hs
    exact pcall_inl hf hc hb hn hrs hs (pwp_sound hC hm c (by rw [hb] at ho; simpa using ho) h)
  · exact h.elim
theorem xC_of {C : CT} {f : Nat} {args : List AV} {K : AV → List AV → Sto → Prop} {Q : Kt} {i : At K} {j : At Q} {e : List AV} {s : Sto} (h : C f args K Q e s) : xC C f args K Q i j e s := h
end Go.E

namespace Go.E
open Go Go.RowKit Go.Maps

/-! ### Bits -/
def andZ (k : IntKind) (a b : Int) : Int := k.wrap (BitVec.ofInt k.bits a &&& BitVec.ofInt k.bits b).toNat
def orZ (k : IntKind) (a b : Int) : Int := k.wrap (BitVec.ofInt k.bits a ||| BitVec.ofInt k.bits b).toNat
def xorZ (k : IntKind) (a b : Int) : Int := k.wrap (BitVec.ofInt k.bits a ^^^ BitVec.ofInt k.bits b).toNat
def andNotZ (k : IntKind) (a b : Int) : Int := k.wrap (BitVec.ofInt k.bits a &&& ~~~ BitVec.ofInt k.bits b).toNat
def shlZ (k : IntKind) (a n : Int) : Int := k.wrap (a * 2 ^ (min n.toNat k.bits))
def shrZ (k : IntKind) (a n : Int) : Int := a.fdiv (2 ^ (min n.toNat k.bits))
section
variable {x y : AV}
theorem bi_add : binI .add x y = .d (.v (.int x.kind (x.kind.wrap (x.int + y.int)))) := id rfl
theorem bi_sub : binI .sub x y = .d (.v (.int x.kind (x.kind.wrap (x.int - y.int)))) := id rfl
theorem bi_mul : binI .mul x y = .d (.v (.int x.kind (x.kind.wrap (x.int * y.int)))) := id rfl
theorem bi_quo : binI .quo x y = .d (.v (.int x.kind (x.kind.wrap (x.int.tdiv y.int)))) := id rfl
theorem bi_rem : binI .rem x y = .d (.v (.int x.kind (x.int.tmod y.int))) := id rfl
theorem bi_and : binI .and x y = .d (.v (.int x.kind (andZ x.kind x.int y.int))) := id rfl
theorem bi_or : binI .or x y = .d (.v (.int x.kind (orZ x.kind x.int y.int))) := id rfl
theorem bi_xor : binI .xor x y = .d (.v (.int x.kind (xorZ x.kind x.int y.int))) := id rfl
theorem bi_andNot : binI .andNot x y = .d (.v (.int x.kind (andNotZ x.kind x.int y.int))) := id rfl
theorem bi_shl : binI .shl x y = .d (.v (.int x.kind (shlZ x.kind x.int y.int))) := id rfl
theorem bi_shr : binI .shr x y = .d (.v (.int x.kind (shrZ x.kind x.int y.int))) := id rfl
theorem bi_eql : binI .eql x y = .b (x.int == y.int) := id rfl
theorem bi_neq : binI .neq x y = .b (x.int != y.int) := id rfl
theorem bi_lss : binI .lss x y = .b (decide (x.int < y.int)) := id rfl
theorem bi_leq : binI .leq x y = .b (decide (x.int ≤ y.int)) := id rfl
theorem bi_gtr : binI .gtr x y = .b (decide (y.int < x.int)) := id rfl
theorem bi_geq : binI .geq x y = .b (decide (y.int ≤ x.int)) := id rfl
end
theorem wrap_u64 {n : Nat} (h : n < 18446744073709551616) : IntKind.u64.wrap (n : Int) = n := by
  simp [IntKind.wrap, IntKind.signed, IntKind.bits]; omega
theorem shr_u64 {u p : Nat} (hp : p ≤ 64) : shrZ .u64 (u : Int) (p : Int) = ((u / 2 ^ p : Nat) : Int) := by
  unfold shrZ
  rw [show min (p : Int).toNat IntKind.u64.bits = p by simp [IntKind.bits]; omega, Int.fdiv_eq_ediv_of_nonneg _ (Int.pow_nonneg (by omega))]
  rw [Int.natCast_ediv, Int.natCast_pow]; rfl
theorem and_u64 {a b : Nat} (ha : a < 18446744073709551616) (hb : b < 18446744073709551616) : andZ .u64 (a : Int) (b : Int) = ((a &&& b : Nat) : Int) := by
  unfold andZ
  have h1 : (BitVec.ofInt IntKind.u64.bits (a : Int) &&& BitVec.ofInt IntKind.u64.bits (b : Int)).toNat = a &&& b := by
    show (BitVec.ofInt 64 (a : Int) &&& BitVec.ofInt 64 (b : Int)).toNat = _
    rw [BitVec.toNat_and, BitVec.ofInt_natCast, BitVec.ofInt_natCast, BitVec.toNat_ofNat, BitVec.toNat_ofNat, Nat.mod_eq_of_lt ha, Nat.mod_eq_of_lt hb]
  rw [h1, wrap_u64 (Nat.lt_of_le_of_lt Nat.and_le_left ha)]
theorem or_u64 {a b : Nat} (ha : a < 18446744073709551616) (hb : b < 18446744073709551616) : orZ .u64 (a : Int) (b : Int) = ((a ||| b : Nat) : Int) := by
  unfold orZ
  have h1 : (BitVec.ofInt IntKind.u64.bits (a : Int) ||| BitVec.ofInt IntKind.u64.bits (b : Int)).toNat = a ||| b := by
    show (BitVec.ofInt 64 (a : Int) ||| BitVec.ofInt 64 (b : Int)).toNat = _
    rw [BitVec.toNat_or, BitVec.ofInt_natCast, BitVec.ofInt_natCast, BitVec.toNat_ofNat, BitVec.toNat_ofNat, Nat.mod_eq_of_lt ha, Nat.mod_eq_of_lt hb]
  rw [h1, wrap_u64 (Nat.or_lt_two_pow (n := 64) ha hb)]
theorem shl_u64 {u p : Nat} (hp : p ≤ 64) (h : u * 2 ^ p < 18446744073709551616) : shlZ .u64 (u : Int) (p : Int) = ((u * 2 ^ p : Nat) : Int) := by
  unfold shlZ
  rw [show min (p : Int).toNat IntKind.u64.bits = p by simp [IntKind.bits]; omega]
  rw [show (u : Int) * 2 ^ p = ((u * 2 ^ p : Nat) : Int) by simp]
  exact wrap_u64 h
theorem bit_u64 {u p : Nat} (hu : u < 18446744073709551616) (hp : p < 64) : (andZ .u64 (shrZ .u64 (u : Int) (p : Int)) 1 == 1) = u.testBit p := by
  rw [shr_u64 (by omega), show (1 : Int) = ((1 : Nat) : Int) from rfl, and_u64 (Nat.lt_of_le_of_lt (Nat.div_le_self _ _) hu) (by omega)]
  rw [Nat.testBit_eq_decide_div_mod_eq, Nat.and_one_is_mod]
  by_cases h : u / 2 ^ p % 2 = 1
  · rw [h]; simp
  · have h2 : u / 2 ^ p % 2 = 0 := by omega
    rw [h2]; simp
theorem set_u64 {u p : Nat} (hu : u < 1024) (hp : p < 10) : orZ .u64 (u : Int) (shlZ .u64 1 (p : Int)) = ((u ||| 2 ^ p : Nat) : Int) := by
  have h2 : 2 ^ p ≤ 2 ^ 9 := Nat.pow_le_pow_right (by omega) (by omega)
  rw [show (1 : Int) = ((1 : Nat) : Int) from rfl, shl_u64 (by omega) (by omega), or_u64 (by omega) (by omega), Nat.one_mul]
end Go.E

namespace Go.E
open Go Go.RowKit Go.Maps
/-- A loop: which slots turn, and which entries of the store. -/
theorem loop_u {P : Program} {C : CT} {O : Nat → Sch} {tb : Nat} (hC : C.ok P) (hm : P.follows .mixedOrders = true) {c : Code} (ho : okO O c = true) {Q : Kt} {i : At c} {j : At Q} {e : List AV} {s : Sto} {σ : Type} (E : σ → List (Nat × AV)) (S : σ → List (Nat × List AV)) (I : σ → Prop) (μ : σ → Nat) (nx : σ → σ) (x0 : σ)
    (h0 : I x0) (hw : wk e (setAll e (E x0)) ∧ wkG s (updAll s (S x0)))
    (round : ∀ x, I x → xW P C O tb c (xS (fun e' s' => (I (nx x) ∧ μ (nx x) < μ x) ∧ wk e' (setAll e (E (nx x))) ∧ wkG s' (updAll s (S (nx x)))) Q (mk _) (mk _)) (mk _) (mk _) (setAll e (E x)) (updAll s (S x))) : xL P c Q i j e s :=
  loop_go' hC hm ho E (fun x => updAll s (S x)) I μ nx x0 h0 hw round
theorem loop_xu {P : Program} {C : CT} {O : Nat → Sch} {tb : Nat} (hC : C.ok P) (hm : P.follows .mixedOrders = true) {c : Code} (ho : okO O c = true) {Q : Kt} {i : At c} {j : At Q} {e : List AV} {s : Sto} {σ : Type} (E : σ → List (Nat × AV)) (S : σ → List (Nat × List AV)) (I : σ → Prop) (μ : σ → Nat) (x0 : σ)
    (h0 : I x0) (hw : wk e (setAll e (E x0)) ∧ wkG s (updAll s (S x0)))
    (round : ∀ x, I x → xW P C O tb c (xS (fun e' s' => ∃ y, (I y ∧ μ y < μ x) ∧ wk e' (setAll e (E y)) ∧ wkG s' (updAll s (S y))) Q (mk _) (mk _)) (mk _) (mk _) (setAll e (E x)) (updAll s (S x))) : xL P c Q i j e s :=
  loop_x hC hm ho E (fun x => updAll s (S x)) I μ x0 h0 hw round
end Go.E

namespace Go.E
open Go Go.RowKit

/-! ### Functions whose results lead to new memory alone -/
def rowsFlat (rows : List (List D)) : Bool := rows.all D.flats
theorem D.flats_append : ∀ {xs ys : List D}, D.flats xs = true → D.flats ys = true → D.flats (xs ++ ys) = true
  | [], _, _, k => k
  | x :: xs, _, h, k => by
    simp only [D.flats, Bool.and_eq_true] at h
    simp only [List.cons_append, D.flats, Bool.and_eq_true]
    exact ⟨h.1, D.flats_append h.2 k⟩
theorem rowsFlat_flat : ∀ {rows : List (List D)}, rowsFlat rows = true → D.flats rows.flatten = true
  | [], _ => rfl
  | r :: rs, h => by
    simp only [rowsFlat, List.all_cons, Bool.and_eq_true] at h
    rw [List.flatten_cons]
    exact D.flats_append h.1 (rowsFlat_flat h.2)
theorem rowsFlat_map {α : Type} {f : α → List D} {l : List α} (h : ∀ a, D.flats (f a) = true) : rowsFlat (l.map f) = true := by
  simp [rowsFlat, h]
def AV.outN (x : AV) : Option D :=
  match x with
  | .d x => if x.flat = true then some x else none
  | .own g _ sz rows => if g = 0 then none else if rowsFlat rows = true then some (.sl sz rows) else none
  | _ => none
def retN (P : Program) (rs : List ResultVar) (R : End → Prop) : Kt
  | .normal, e, s | .ret, e, s => s.get 0 = some [] ∧ resAll P e s rs ∧ ∃ ds, outL AV.outN (rs.map (resV P e s)) = some ds ∧ R (.ret (packD ds))
  | .panic c, _, s => s.get 0 = some [] ∧ R (.pan c)
  | _, _, _ => False
/-- As PF; and the result leads to new memory alone. -/
def PFn (P : Program) (f : Nat) (ds : List D) (R : End → Prop) : Prop :=
  callable P f = true ∧ ∀ (F : Nat → Prop) (w : World) (vs : Array Value), DReps (look F w) ds vs.toList →
    Calls P f vs w (fun en w' => Below w.heap.size w w' ∧ match en with
      | .returned v => ∃ d, R (.ret d) ∧ DRep (look (fun b => w.heap.size ≤ b) w') d v
      | .panicked c => R (.pan c)
      | .outgrown => False)
theorem PFn.pf {P : Program} {f : Nat} {ds : List D} {R : End → Prop} (h : PFn P f ds R) : PF P f ds R :=
  ⟨h.1, fun F w vs hd => (h.2 F w vs hd).mono fun en w' ⟨h1, h2⟩ => ⟨h1, by
    cases en with
    | returned v => obtain ⟨d, h3, h4⟩ := h2; exact ⟨d, h3, DRep.mono (look_le fun b hb _ => ⟨.inr hb, rfl⟩) _ _ h4⟩
    | panicked c => exact h2
    | outgrown => exact h2⟩⟩
theorem PFn_nil {P : Program} {f : Nat} {ds : List D} {d : D} (h : PFn P f ds (fun z => retEq z d)) : PFn P f ds (fun z => z = .ret d) :=
  ⟨h.1, fun F w vs hd => (h.2 F w vs hd).mono fun en w' ⟨h1, h2⟩ => ⟨h1, by
    cases en with
    | returned v => obtain ⟨d', h3, h4⟩ := h2; exact ⟨d, rfl, nilEq_rep h3 h4⟩
    | panicked c => exact h2.elim
    | outgrown => exact h2⟩⟩
theorem outN_rep {L : Lay} {w : World} {n : Nat} (hL : ∀ b g, g ≠ 0 → L.own b = some g → n ≤ b) {x : AV} {d : D} {u : Value} (h : x.outN = some d) (k : ARep L w x u) : DRep (look (fun b => n ≤ b) w) d u := by
  unfold AV.outN at h
  split at h
  · split at h
    · rename_i hf; cases h; exact D.flat_rep hf k
    · cases h
  · rename_i g el sz rows
    split at h
    · cases h
    · rename_i hg
      split at h
      · rename_i hf
        cases h
        obtain ⟨_, xs, h1, h2, h3, h4, h5⟩ := k
        let L2 : Lay := { L with own := fun b => if L.own b = some g then some g else some 0 }
        refine ownRow_read (L := L2) (w := w) (g := g) (e := el) ⟨xs, h1, fun b hb => by simp only [L2]; rw [if_pos (h2 b hb)], h3, h4, D.flats_rep (rowsFlat_flat hf) h5⟩ fun b hb => ?_
        simp only [L2] at hb
        split at hb
        · rename_i ho; exact hL b g hg ho
        · rcases hb with hb | hb
          · cases hb
          · simp at hb; exact absurd hb.symm hg
      · cases h
  · cases h
theorem PFn_intro {P : Program} {f : Nat} {fn : Func} {c : Code} {n : Nat} {rs : Array ResultVar} {ds : List D} {R : End → Prop} (hf : P.funcs[f]? = some fn) (hc : callable P f = true) (hb : fn.body = some c) (hn : fn.ntmps = n) (hrs : fn.results = rs)
    (h : psem P c (retN P rs.toList R) (ds.map .d ++ List.replicate (n - ds.length) .any) [(0, [])]) : PFn P f ds R := by
  refine ⟨hc, fun F w vs hd => (callsFW (r := none) (n := 0)).1 (callsIn_of_wp_marks hf hb trivial (Code.wpIn_mono ?_ (h w (lay0 F w) (lay0 F w) w { tmps := vs ++ Array.replicate (fn.ntmps - vs.size) undef, defers := [] } (by rw [← hn]; exact lay0_rel hd))))⟩
  rintro x a w' ⟨L, e, s, hr', hq⟩
  have fin : (s.get 0 = some [] ∧ resAll P e s rs.toList ∧ ∃ ds, outL AV.outN (rs.toList.map (resV P e s)) = some ds ∧ R (.ret (packD ds))) → LeavesInM (FW none) 0 P fn a.tmps (fun en w' => Below w.heap.size w w' ∧ match en with
      | .returned v => ∃ d, R (.ret d) ∧ DRep (look (fun b => w.heap.size ≤ b) w') d v
      | .panicked c => R (.pan c)
      | .outgrown => False) a.defers .returning w' := fun ⟨h0, hq⟩ =>
    leave_marks (by simp) a.defers w' (rel_none hr' h0).2 hr'.mks.1 (fun r h => (hr'.mks.2 r h).1) fun w'' hsh => by
      have hr2 := hr'.shut (rel_none hr' h0).2 hsh
      obtain ⟨h1, ds', h2, h3⟩ := hq
      obtain ⟨us, g1, g2⟩ := results_run hr2 (fun r => match r with | .tmp t => pure (a.tmps.getD t undef) | .cell x t => do loadVar t (← asAddr (a.tmps.getD x undef))) (fun t => rfl) (fun x t => rfl) rs.toList h1
      have hL : ∀ b g, g ≠ 0 → L.own b = some g → w.heap.size ≤ b := fun b g hg hb => by
        by_cases hlt : b < w.heap.size
        · have h0 : (lay0 F w).own b = none ∨ (lay0 F w).own b = some 0 := by
            simp only [lay0]; rw [if_pos hlt]; by_cases hF : F b
            · rw [if_pos hF]; exact .inl rfl
            · rw [if_neg hF]; exact .inr rfl
          have := (hr2.old b hlt h0).1
          rw [hb] at this
          rcases h0 with h | h <;> rw [h] at this <;> simp at this
          exact absurd this hg
        · omega
      have ho : DReps (look (fun b => w.heap.size ≤ b) w'') ds' us := outL_rep (fun x d u hx hk => outN_rep hL hx hk) h2 g2
      have hol := ho.length
      refine ⟨if h : us.toArray.size = 1 then us.toArray[0] else .tuple us.toArray, ?_, lay0_below hr2, packD ds', h3, ?_⟩
      · unfold results
        rw [hrs, Array.mapM_eq_mapM_toList]
        simp only [Sem.run_bind, Sem.run_map]
        erw [g1]
        rfl
      · match ds', us, hol with
        | [], [], _ => exact ⟨_, rfl, ho⟩
        | [d], [u], _ => obtain ⟨u', ut, e, k1, _⟩ := ho; simp at e; rw [← e.1] at k1; simpa [packD] using k1
        | d1 :: d2 :: dr, u1 :: u2 :: ur, _ => exact ⟨(u1 :: u2 :: ur).toArray, by rw [dif_neg (by simp)], ho⟩
  cases x with
  | normal => exact fin hq
  | ret => exact fin hq
  | panic c => exact leave_marks (by simp) a.defers w' (rel_none hr' hq.1).2 hr'.mks.1 (fun r h => (hr'.mks.2 r h).1) fun w'' hsh => ⟨lay0_below (hr'.shut (rel_none hr' hq.1).2 hsh), hq.2⟩
  | exit i => exact hq
  | goto l => exact hq
  | outgrown => exact hq.elim

def xRn (P : Program) (rs : List ResultVar) (R : End → Prop) (_ : At rs) (_ : At R) : Kt := fun x e s => retN P rs R x e s
section
variable {P : Program} {e : List AV} {s : Sto} {rs : List ResultVar} {R : End → Prop} {i : At rs} {j : At R}
theorem n_retn : xRn P rs R i j .normal e s = (s.get 0 = some [] ∧ resAll P e s rs ∧ oK (outL AV.outN (rs.map (resV P e s))) (fun ds => R (.ret (packD ds))) (mk _)) := by
  simp only [xRn, retN, oK]; cases outL AV.outN (rs.map (resV P e s)) <;> simp
theorem n_retr : xRn P rs R i j .ret e s = (s.get 0 = some [] ∧ resAll P e s rs ∧ oK (outL AV.outN (rs.map (resV P e s))) (fun ds => R (.ret (packD ds))) (mk _)) := by
  simp only [xRn, retN, oK]; cases outL AV.outN (rs.map (resV P e s)) <;> simp
theorem n_retp {c : List PanicEntry} : xRn P rs R i j (.panic c) e s = (s.get 0 = some [] ∧ R (.pan c)) := id rfl
theorem qd_Rn {l : List Oper} {m : At l} {k} : xQd l (xRn P rs R i j) m k = True := propext ⟨fun _ => trivial, fun _ _ _ _ _ _ h => h⟩
end
theorem PFn_start {P : Program} {C : CT} {O : Nat → Sch} {f : Nat} {fn : Func} {c : Code} {n : Nat} {rs : Array ResultVar} {ds : List D} {R : End → Prop} (hC : C.ok P) (hm : P.follows .mixedOrders = true) (ho : (fn.body.map (okO O)) = some true) (hf : P.funcs[f]? = some fn) (hc : callable P f = true) (hb : fn.body = some c) (hn : fn.ntmps = n) (hrs : fn.results = rs)
    (h : xW P C O 0 c (xRn P rs.toList R (mk _) (mk _)) (mk _) (mk _) (ds.map .d ++ List.replicate (n - ds.length) .any) [(0, [])]) : PFn P f ds R :=
  PFn_intro hf hc hb hn hrs (pwp_sound hC hm c (by rw [hb] at ho; simpa using ho) h)

/-- At rows of the call's own too. -/
theorem pcall_n {P : Program} {f : Nat} {args : List AV} {ds : List D} {R : End → Prop} {K : AV → List AV → Sto → Prop} {Q : Exit → List AV → Sto → Prop} {e : List AV} {s : Sto} (h : PFn P f ds R) (ha : AV.rds args = some ds)
    (hK : ∀ d, R (.ret d) → K (.d d) e s) (hQ : ∀ c, R (.pan c) → Q (.panic c) e s) : pcall P f args K Q e s := by
  refine ⟨h.1, fun W0 L0 L w a vs hr hv => (h.2 (fun _ => True) w vs (AV.rds_rep ha hv)).mono fun en w' ⟨hb, hen⟩ => ?_⟩
  have hr' := hr.grow hb
  cases en with
  | returned v =>
    obtain ⟨d, h1, h2⟩ := hen
    refine ⟨L, e, s, .d d, hr', DRep.mono (look_le fun b hb' hlt => ⟨?_, rfl⟩) d v h2, hK d h1⟩
    cases ho : L.own b with
    | none => rfl
    | some g => have := hr.own_lt b g ho; omega
  | panicked c => exact ⟨L, e, s, hr', hQ c hen⟩
  | outgrown => exact hen
def entn {α : Type} (P1 : α → List D) (pre : α → Prop) (R : α → D) (args : List AV) (K : AV → List AV → Sto → Prop) (e : List AV) (s : Sto) : Prop :=
  ∃ a, AV.rds args = some (P1 a) ∧ pre a ∧ K (.d (R a)) e s
theorem entn_ok {α : Type} {P : Program} {f : Nat} {P1 : α → List D} {pre : α → Prop} {R : α → D} (h : ∀ a, pre a → PFn P f (P1 a) (fun x => x = .ret (R a))) {args : List AV} {K : AV → List AV → Sto → Prop} {Q : Kt} {e : List AV} {s : Sto}
    (he : entn P1 pre R args K e s) : pcall P f args K Q e s := by
  obtain ⟨a, h1, h2, h4⟩ := he
  exact pcall_n (h a h2) h1 (fun x hx => by cases hx; exact h4) (fun c hc => by cases hc)
theorem entn_iff {α : Type} {P1 : α → List D} {pre : α → Prop} {R : α → D} {K : AV → List AV → Sto → Prop} {e : List AV} {s : Sto} {args : List AV} (a : α) (hinj : ∀ b, P1 b = P1 a → b = a) (hr : AV.rds args = some (P1 a)) :
    entn P1 pre R args K e s = (pre a ∧ K (.d (R a)) e s) := by
  apply propext
  constructor
  · rintro ⟨b, h1, h2, h4⟩
    rw [hr] at h1
    obtain rfl := hinj b (Option.some.inj h1).symm
    exact ⟨h2, h4⟩
  · rintro ⟨h2, h4⟩
    exact ⟨a, hr, h2, h4⟩
end Go.E

namespace Go.E
open Go Go.RowKit Go.ChangeShapes Go.WideShapes

/-! ### From what a row reads to data -/
def flF (f : TypeId → Option (List Leaf)) : Nat → List Field → Option (List Leaf)
  | _, [] => some []
  | o, x :: xs => if x.offset ≠ o then none else match f x.type with | some l => (flF f (o + l.length) xs).map (l ++ ·) | none => none
/-- The cells of a type that leads to no memory. -/
def fl (P : Program) : Nat → TypeId → Option (List Leaf)
  | 0, _ => none
  | n + 1, t => match P.underlying t with
    | some (.int k) => if P.cellsOf t = 1 then some [.int k] else none
    | some .bool => if P.cellsOf t = 1 then some [.bool] else none
    | some .string => if P.cellsOf t = 1 then some [.str] else none
    | some (.struct fs) => match flF (fl P n) 0 fs.toList with
      | some l => if l.length = P.cellsOf t then some l else none
      | none => none
    | _ => none
def leafD : List Leaf → List D → Prop
  | [], [] => True
  | .int k :: ls, .v (.int k' n) :: xs => (k = k' ∧ (Lit.int k n).wf = true) ∧ leafD ls xs
  | .bool :: ls, .v (.bool _) :: xs => leafD ls xs
  | .str :: ls, .v (.string s) :: xs => s.size ≤ maxLen ∧ leafD ls xs
  | _, _ => False
theorem fl_cells {P : Program} {n : Nat} {t : TypeId} {ls : List Leaf} (h : fl P n t = some ls) : P.cellsOf t = ls.length := by
  cases n with
  | zero => simp [fl] at h
  | succ n =>
    unfold fl at h
    split at h
    · split at h
      · cases h; assumption
      · cases h
    · split at h
      · cases h; assumption
      · cases h
    · split at h
      · cases h; assumption
      · cases h
    · split at h
      · split at h
        · cases h; rename_i h1; exact h1.symm
        · cases h
      · cases h
    · cases h
theorem leafD_append : ∀ {l1 l2 : List Leaf} {x1 x2 : List D}, leafD l1 x1 → leafD l2 x2 → leafD (l1 ++ l2) (x1 ++ x2)
  | [], _, [], _, _, h => h
  | .int _ :: l1, _, .v (.int _ _) :: x1, _, h, k => ⟨h.1, leafD_append h.2 k⟩
  | .bool :: l1, _, .v (.bool _) :: x1, _, h, k => leafD_append (l1 := l1) (x1 := x1) h k
  | .str :: l1, _, .v (.string _) :: x1, _, h, k => ⟨h.1, leafD_append h.2 k⟩
theorem leafD_len : ∀ {l : List Leaf} {x : List D}, leafD l x → x.length = l.length
  | [], [], _ => rfl
  | .int _ :: l, .v (.int _ _) :: x, h => by simp [leafD_len h.2]
  | .bool :: l, .v (.bool _) :: x, h => by simp [leafD_len (l := l) (x := x) h]
  | .str :: l, .v (.string _) :: x, h => by simp [leafD_len h.2]

section
variable {H : Type} {enc : TypeId × Value → H} {P : Program} {w : World} {base : Nat} {sp : Nat → Bool} {held : Bool} {m : Mem}
theorem flF_d {n : Nat} {cs : List Value} (ih : ∀ t ls, fl P n t = some ls → ∀ fuel cs x, DataW.trod enc P w base sp held fuel t cs = some x → ∃ ds, DReps m ds cs ∧ leafD ls ds ∧ ∀ u ∈ cs, u.oneCell' = true) (fuel : Nat) :
    ∀ (fs : List Field) (o : Nat) (ls : List Leaf), flF (fl P n) o fs = some ls → (∀ f ∈ fs, ∃ y, DataW.trod enc P w base sp held fuel f.type ((cs.drop f.offset).take (P.cellsOf f.type)) = some y) →
      ∃ ds, DReps m ds ((cs.drop o).take ls.length) ∧ leafD ls ds ∧ ∀ u ∈ (cs.drop o).take ls.length, u.oneCell' = true
  | [], o, ls, h, _ => by
    simp [flF] at h; subst h
    exact ⟨[], by simp [DReps], trivial, by simp⟩
  | f :: fs, o, ls, h, hf => by
    unfold flF at h
    split at h
    · cases h
    · rename_i ho
      have ho : f.offset = o := by simpa using ho
      split at h
      · rename_i l1 h1
        obtain ⟨l2, h2, rfl⟩ := Option.map_eq_some_iff.1 h
        obtain ⟨y, hy⟩ := hf f (by simp)
        rw [ho, fl_cells h1] at hy
        obtain ⟨d1, k1, k2, k3⟩ := ih f.type l1 h1 fuel _ y hy
        obtain ⟨d2, q1, q2, q3⟩ := flF_d ih fuel fs (o + l1.length) l2 h2 (fun g hg => hf g (List.mem_cons_of_mem _ hg))
        have e : (cs.drop o).take (l1 ++ l2).length = (cs.drop o).take l1.length ++ (cs.drop (o + l1.length)).take l2.length := by
          rw [List.length_append, List.take_add, List.drop_drop]
        rw [e]
        exact ⟨d1 ++ d2, DReps.append k1 q1, leafD_append k2 q2, fun u hu => by rcases List.mem_append.1 hu with h | h; exact k3 u h; exact q3 u h⟩
      · cases h
theorem flat_d : ∀ (n : Nat) (t : TypeId) (ls : List Leaf), fl P n t = some ls → ∀ (fuel : Nat) (cs : List Value) (x : DataW H × List MemPlace), DataW.trod enc P w base sp held fuel t cs = some x → ∃ ds, DReps m ds cs ∧ leafD ls ds ∧ ∀ u ∈ cs, u.oneCell' = true
  | 0, t, ls, h, _, _, _, _ => by simp [fl] at h
  | n + 1, t, ls, h, fuel, cs, x, hx => by
    unfold fl at h
    split at h
    · rename_i k hu
      split at h
      · cases h
        obtain ⟨a, rfl, _, hw⟩ := DataW.trod_int hu hx
        exact ⟨[.v (.int k a)], ⟨_, [], rfl, rfl, rfl⟩, ⟨⟨rfl, hw⟩, trivial⟩, fun u hu => by simp at hu; subst hu; rfl⟩
      · cases h
    · rename_i hu
      split at h
      · cases h
        obtain ⟨b, rfl, _⟩ := DataW.trod_bool hu hx
        exact ⟨[.v (.bool b)], ⟨_, [], rfl, rfl, rfl⟩, trivial, fun u hu => by simp at hu; subst hu; rfl⟩
      · cases h
    · rename_i hu
      split at h
      · cases h
        obtain ⟨s, rfl, _, hs⟩ := DataW.trod_string hu hx
        exact ⟨[.v (.string s)], ⟨_, [], rfl, rfl, rfl⟩, ⟨hs, trivial⟩, fun u hu => by simp at hu; subst hu; rfl⟩
      · cases h
    · rename_i fs hu
      split at h
      · rename_i l hl
        split at h
        · rename_i hlen
          cases h
          obtain ⟨ys, n', hn', hy, hc, hyl, hf⟩ := DataW.trod_struct hu hx
          obtain ⟨ds, k1, k2, k3⟩ := flF_d (cs := cs) (fun t ls h fuel cs x hx => flat_d n t ls h fuel cs x hx) n' fs.toList 0 ls hl (fun f hfm => by
            obtain ⟨i, hi, he⟩ := List.getElem_of_mem hfm
            have hfi : fs[i]? = some f := by rw [← Array.getElem?_toList, List.getElem?_eq_getElem hi, he]
            have := hf i f hfi
            have hys : i < ys.length := by rw [hyl]; simpa using hi
            exact ⟨ys[i], this.trans (List.getElem?_eq_getElem hys)⟩)
          have e : (cs.drop 0).take ls.length = cs := by rw [List.drop_zero, hlen, ← hc, List.take_length]
          rw [e] at k1 k3
          exact ⟨ds, k1, k2, k3⟩
        · cases h
      · cases h
    · cases h

/-- An argument that is a struct without memory. -/
theorem arg_struct {r : Reach} {b0 n : Nat} {t : TypeId} {fs : Array Field} {ls : List Leaf} {v : Value} {d : DataW H} {ps : List MemPlace} (hu : P.underlying t = some (.struct fs)) (hf : fl P n t = some ls) (hv : Value.okWide P w r b0 t v) (h : DataW.Trod enc P w base sp held t v d ps) :
    ∃ ds, leafD ls ds ∧ DRep m (.agg ds) v := by
  simp only [Value.okWide, hu] at hv
  obtain ⟨cs, rfl, _⟩ := hv
  obtain ⟨fuel, hx⟩ := h
  obtain ⟨ds, k1, k2, _⟩ := flat_d (m := m) n t ls hf fuel _ _ hx
  exact ⟨ds, k2, cs, rfl, k1⟩
/-- An argument that is a slice of such. -/
theorem arg_slice {r : Reach} {b0 n : Nat} {t e : TypeId} {ls : List Leaf} {v : Value} {d : DataW H} {ps : List MemPlace} (hu : P.underlying t = some (.slice e)) (hf : fl P n e = some ls) (hv : Value.okWide P w r b0 t v) (h : DataW.Trod enc P w base sp held t v d ps) :
    ∃ rows, (∀ x ∈ rows, leafD ls x) ∧ DRep (look (fun _ => True) w) (.sl ls.length rows) v := by
  have hcells := fl_cells hf
  obtain ⟨a0, len0, cap0, rfl⟩ := okWide_slice hu hv
  obtain ⟨fuel, hx⟩ := h
  rcases Deep.open_slice hu hx with ⟨h0, _⟩ | ⟨a, len, cap, k, q, Dd, Pl, hcs, hb, hl, hm, hk, hxx, hi⟩
  · simp [Value.cells] at h0
    obtain ⟨rfl, rfl, rfl⟩ := h0
    exact ⟨[], by simp, none, 0, 0, rfl, rfl, Nat.le_refl _, .inl ⟨rfl, rfl, rfl⟩⟩
  · simp [Value.cells] at hcs
    obtain ⟨rfl, rfl, rfl⟩ := hcs
    have hspot : a.spot = none := by
      simp only [Value.okWide, hu, Cell.okWide] at hv
      simp only [Cell.ok, hu] at hv
      exact hv.2.2.2.1
    obtain ⟨b, o, s⟩ := a
    simp only at hspot
    subst hspot
    have hk' : len0 ≤ k := by rw [hk]; split <;> omega
    have hrow : ∀ i, i < len0 → ∃ x, leafD ls x ∧ x.length = ls.length ∧ DCells (look (fun _ => True) w) b (o + i * ls.length) x := fun i hil => by
      obtain ⟨cs', hc, ht⟩ := hi i (by omega)
      rw [hcells] at hc
      obtain ⟨ds, k1, k2, k3⟩ := flat_d (m := look (fun _ => True) w) n e ls hf _ _ _ ht
      obtain ⟨_, hcl, hat⟩ := World.cells?_some hc
      have hdl := leafD_len k2
      refine ⟨ds, k2, hdl, DCells.of_get fun j d hd => ?_⟩
      obtain ⟨x, hxj, hdx⟩ := k1.get j d hd
      have hj : j < ls.length := by rw [← hdl]; exact (List.getElem?_eq_some_iff.1 hd).1
      have := hat j hj
      rw [hxj, add_none, add_none] at this
      exact ⟨x, look_some.2 ⟨trivial, this⟩, k3 x (List.mem_of_getElem? hxj), hdx⟩
    have hall : ∃ rows : List (List D), rows.length = len0 ∧ ∀ i x, rows[i]? = some x → leafD ls x ∧ x.length = ls.length ∧ DCells (look (fun _ => True) w) b (o + i * ls.length) x := by
      clear hxx hi hv hx hk hk' hl hm
      induction len0 with
      | zero => exact ⟨[], rfl, by simp⟩
      | succ q ih =>
        obtain ⟨rows, h1, h2⟩ := ih (fun i hi => hrow i (by omega))
        obtain ⟨x, h3⟩ := hrow q (by omega)
        refine ⟨rows ++ [x], by simp [h1], fun i y hy => ?_⟩
        rw [List.getElem?_append] at hy
        split at hy
        · exact h2 i y hy
        · rename_i hge
          have hi0 : i - rows.length = 0 := by
            cases hz : i - rows.length with
            | zero => rfl
            | succ z => rw [hz] at hy; simp at hy
          rw [hi0] at hy
          simp at hy; subst hy
          have : i = q := by omega
          subst this; exact h3
    obtain ⟨rows, h1, h2⟩ := hall
    refine ⟨rows, fun x hx => ?_, _, _, _, rfl, h1.symm, hl, .inr ⟨b, o, rfl, DRows.of_get fun i x hx => ?_⟩⟩
    · obtain ⟨i, hi, e⟩ := List.getElem_of_mem hx
      exact (h2 i x (by rw [List.getElem?_eq_getElem hi, e])).1
    · have := h2 i x (by simpa using hx)
      exact ⟨this.2.1, by simpa using this.2.2⟩
end
/-- A function of data that returns true. -/
theorem PF.walk {P : Program} {f : Nat} {ds : List D} (h : PF P f ds (fun z => z = .ret (.b true))) {w : World} {vs : Array Value} (hd : DReps (look (fun _ => True) w) ds vs.toList) :
    Calls P f vs w (fun e w' => e = .returned (.bool true) ∧ Below w.heap.size w w') :=
  (h.2 (fun _ => True) w vs hd).mono fun e w' ⟨hb, he⟩ => by
    cases e with
    | returned v =>
      obtain ⟨d, h1, h2⟩ := he
      cases h1
      exact ⟨by rw [show v = _ from h2], hb⟩
    | panicked c => cases he
    | outgrown => exact he.elim
end Go.E
