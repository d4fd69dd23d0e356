/- A part of the proof that the last text ends: what functions of the program do, told by plain data. -/
import Derived.Test.YtofbbkacihnjdaaEa
import Derived.RowKit
import Derived.OrdersHeld
import Derived.Deep.LoopGhost
import Derived.Scope
import Derived.RangeFuncIn
import Derived.OrdersIn
import Derived.TacticsIn
import Derived.RangeFuncLeaves
import Derived.Recover
import Derived.RangeFuncRecord
import Derived.RangeFuncNested
/- The walk on data: a calculus over the weakest preconditions of the kit: what a call does is told by lists of plain data. Part 2 of 3. -/
set_option linter.unusedVariables false
set_option linter.unusedSimpArgs false
namespace Go.E
open Go Go.Maps

abbrev bxE (gb i : Nat) (kd : D) (cs : List D) : AV := .tup [.d kd, .bx gb i 0, .d (.agg cs)]
def boxesOk (gb : Nat) (c : List AV) : Prop := ∀ i, i < c.length → ∃ kd cs, c[i]? = some (bxE gb i kd cs)
def bmapOk (P : Program) (kt gb : Nat) (c : List AV) : Prop := ∀ i, i < c.length → ∃ kd cs kv, c[i]? = some (bxE gb i kd cs) ∧ kd.val? = some kv ∧ (keyOf P kt kv).isSome = true
theorem boxesOk.no {gb : Nat} {c : List AV} (h : boxesOk gb c) : c.length = 0 ∨ ∃ (i gb j : Nat) (kd : D) (cs : List D), c[i]? = some (bxE gb j kd cs) := by
  by_cases h0 : c.length = 0
  · exact .inl h0
  · obtain ⟨kd, cs, h1⟩ := h 0 (by omega)
    exact .inr ⟨0, gb, 0, kd, cs, h1⟩
theorem bx_no {L : Lay} {w : World} {c : List AV} {vs : List Value} (hb : c.length = 0 ∨ ∃ (i gb j : Nat) (kd : D) (cs : List D), c[i]? = some (bxE gb j kd cs)) (h : AReps L w c vs) : ∀ a, vs ≠ [.pointer a] := by
  rintro a rfl
  have hl := h.length
  rcases hb with h0 | ⟨i, gb, j, kd, cs, h1⟩
  · simp [h0] at hl
  · obtain ⟨u, hu, us, rfl, _⟩ := h.get i _ h1
    cases i <;> simp at hu
theorem bmapOk.boxes {P : Program} {kt gb : Nat} {c : List AV} (h : bmapOk P kt gb c) : boxesOk gb c := fun i hi => by
  obtain ⟨kd, cs, _, h1, _⟩ := h i hi
  exact ⟨kd, cs, h1⟩
def blkOf : Value → Nat
  | .pointer (some ⟨b, _, _⟩) => b
  | _ => 0
theorem boxVs_at {w : World} {es : Array MapEntry} {i : Nat} {x : MapEntry} (h : es.toList[i]? = some x) : (boxVs w es)[i]? = some (.tuple #[x.key, x.val, .agg (boxC w x.val)]) := by
  unfold boxVs; rw [List.getElem?_map, h]; rfl
theorem bent_at {L : Lay} {w : World} {c : List AV} {es : Array MapEntry} {gb i : Nat} {kd : D} {cs : List D} {x : MapEntry} (h : AReps L w c (boxVs w es)) (h1 : c[i]? = some (bxE gb i kd cs)) (h2 : es.toList[i]? = some x) : DRep (L.mem w) kd x.key ∧ ARep L w (.bx gb i 0) x.val ∧ DReps (L.mem w) cs (boxC w x.val).toList := by
  obtain ⟨u, hu, k⟩ := h.get i _ h1
  rw [boxVs_at h2] at hu
  cases hu
  obtain ⟨us, e, u1, t1, g1, k2, u2, t2, rfl, k3, u3, t3, rfl, ⟨C, rfl, k4⟩, g4⟩ := k
  obtain rfl : t3 = [] := g4
  cases e
  simp only [List.cons.injEq, Value.agg.injEq, and_true] at g1
  obtain ⟨rfl, rfl, rfl⟩ := g1
  exact ⟨k2, k3, k4⟩
theorem boxes_len {L : Lay} {w : World} {c : List AV} {es : Array MapEntry} (h : AReps L w c (boxVs w es)) : es.size = c.length := by
  have := h.length
  simp only [boxVs, List.length_map, Array.length_toList] at this
  exact this
theorem findB {P : Program} {kt gb : Nat} (K : Keyed P kt) {L : Lay} {w : World} {c : List AV} {es : Array MapEntry} (h : AReps L w c (boxVs w es)) (hok : bmapOk P kt gb c) {kv : Value} (hkey : (keyOf P kt kv).isSome = true) :
    ((Instr.findKey kt kv es.toList).run P w = .ok none w ∧ ∀ i kd cs, c[i]? = some (bxE gb i kd cs) → kd.val? ≠ some kv) ∨
    ∃ j x kd cs, (Instr.findKey kt kv es.toList).run P w = .ok (some (j, x.val)) w ∧ es.toList[j]? = some x ∧ c[j]? = some (bxE gb j kd cs) ∧ kd.val? = some kv ∧ ARep L w (.bx gb j 0) x.val := by
  obtain ⟨l, hl⟩ := Option.isSome_iff_exists.1 hkey
  have hlen := boxes_len h
  have hat : ∀ (i : Nat) (x : MapEntry), es.toList[i]? = some x → ∃ kd cs, c[i]? = some (bxE gb i kd cs) ∧ kd.val? = some x.key ∧ ARep L w (.bx gb i 0) x.val ∧ ∃ l, keyOf P kt x.key = some l := fun i x hx => by
    have hi : i < c.length := by rw [← hlen]; simpa using (List.getElem?_eq_some_iff.1 hx).1
    obtain ⟨kd, cs, kv, e1, e2, e3⟩ := hok i hi
    obtain ⟨k1, k2, _⟩ := bent_at h e1 hx
    have := D.val_rep e2 k1
    subst this
    exact ⟨kd, cs, e1, e2, k2, Option.isSome_iff_exists.1 e3⟩
  have h1 : ∀ x ∈ es.toList, ∃ l, keyOf P kt x.key = some l := fun x hx => by
    obtain ⟨i, hi, hx⟩ := List.getElem_of_mem hx
    obtain ⟨_, _, _, _, _, hl⟩ := hat i x (by rw [List.getElem?_eq_getElem hi, hx])
    exact hl
  rcases K.find w hl es.toList h1 with ⟨q1, q2⟩ | ⟨j, x, q1, q2, q3⟩
  · refine .inl ⟨q1, fun i kd cs hc hk => ?_⟩
    have hi : i < es.toList.length := by
      have := (List.getElem?_eq_some_iff.1 hc).1
      simpa [hlen] using this
    obtain ⟨k1, _⟩ := bent_at h hc (List.getElem?_eq_getElem hi)
    exact q2 _ (List.getElem_mem hi) (D.val_rep hk k1)
  · obtain ⟨kd, cs, h3, h4, h5, _⟩ := hat j x q2
    rw [q3] at h4
    exact .inr ⟨j, x, kd, cs, q1, q2, h3, h4, h5⟩
def lookBV (gb : Nat) (z : AV) (ok : Bool) : Option Nat → AV
  | some i => if ok then AV.mkTup [.bx gb i 0, .b true] else .bx gb i 0
  | none => if ok then AV.mkTup [z, .b false] else z
structure Adp (k g gb : Nat) (L : Lay) (w : World) (L' : Lay) (w' : World) : Prop where
  heap : ∀ b, b < w.heap.size → L.own b ≠ some k → L.own b ≠ some g → w'.heap[b]? = w.heap[b]? ∧ L'.own b = L.own b
  blk : L'.blk = L.blk
  hdr : ∀ h, h ≠ gb → L'.hdr h = L.hdr h
  lk : L'.lk = L.lk
theorem Adp.mem {k g gb : Nat} {L L' : Lay} {w w' : World} (h : Adp k g gb L w L' w') : (L.mem w).le (L'.mem w') :=
  look_le fun b hb hlt => by
    have := h.heap b hlt (by rw [hb]; simp) (by rw [hb]; simp)
    exact ⟨by rw [this.2]; exact hb, this.1⟩
theorem OwnRow.adp {k g gb h e s : Nat} {L L' : Lay} {w w' : World} {rows : List (List D)} {u : Value} (H : Adp k g gb L w L' w') (hk : h ≠ k) (hg : h ≠ g) (hr : OwnRow L w h e s rows u) : OwnRow L' w' h e s rows u := by
  obtain ⟨xs, h1, h2, h3, h5, h4⟩ := hr
  have hb : ∀ b, u.ownBlock = some b → w'.heap[b]? = w.heap[b]? ∧ L'.own b = L.own b := fun b hb => by
    have := h1.lt b hb
    exact H.heap b this.2 (by rw [h2 b hb]; simpa using hk) (by rw [h2 b hb]; simpa using hg)
  refine ⟨xs, ⟨h1.1, ?_⟩, fun b hu => by rw [(hb b hu).2]; exact h2 b hu, h3, h5, DReps.mono H.mem _ _ h4⟩
  rcases h1.2 with hn | ⟨b, cap, cur, e1, e2, e3, rest⟩
  · exact .inl hn
  · exact .inr ⟨b, cap, cur, e1, e2, by rw [(hb b (by rw [e1]; rfl)).1]; exact e3, rest⟩
mutual
theorem ARep.adp {k g gb : Nat} {L L' : Lay} {w w' : World} (H : Adp k g gb L w L' w') : ∀ (x : AV) (u : Value), x.men k = false → x.men gb = false → x.menc g = false → ARep L w x u → ARep L' w' x u
  | .any, _, _, _, _, _ => trivial
  | .d x, u, _, _, _, hr => DRep.mono H.mem x u hr
  | .own h _ s rows, u, hk, hb, hg, ⟨e, hr⟩ => ⟨by rw [H.hdr h (by simpa [AV.men] using hb)]; exact e, OwnRow.adp H (by simpa [AV.men] using hk) (by simpa [AV.menc] using hg) hr⟩
  | .eref h _ s rows i off, u, hk, hb, hg, ⟨hr, hi, b, n, c, e1, e2⟩ => by
    have hh := H.hdr h (by simpa [AV.men] using hb)
    exact ⟨by rw [hh]; exact OwnRow.adp H (by simpa [AV.men] using hk) (by simpa [AV.menc] using hg) hr, hi, b, n, c, by rw [hh]; exact e1, e2⟩
  | .ref h off, u, _, _, _, e => ⟨by rw [H.blk]; exact e.1, by rw [H.lk]; exact e.2.1, e.2.2⟩
  | .tup xs, _, hk, hb, hg, ⟨us, e, k1⟩ => ⟨us, e, AReps.adp H xs _ hk hb hg k1⟩
  | .agg xs, _, hk, hb, hg, ⟨us, e, k1⟩ => ⟨us, e, AReps.adp H xs _ hk hb hg k1⟩
  | .clo _ x y, _, hk, hb, hg, ⟨xs, ys, e, k1, k2⟩ => by
    simp only [AV.men, Bool.or_eq_false_iff] at hk hb
    simp only [AV.menc, Bool.or_eq_false_iff] at hg
    exact ⟨xs, ys, e, AReps.adp H x _ hk.1 hb.1 hg.1 k1, AReps.adp H y _ hk.2 hb.2 hg.2 k2⟩
  | .iface _ x, _, hk, hb, hg, ⟨y, e, k1⟩ => ⟨y, e, ARep.adp H x y hk hb hg k1⟩
  | .yld h _ _ _ _, u, _, _, _, ⟨r, e, e2⟩ => ⟨r, by rw [H.lk]; exact e, e2⟩
  | .mp h, u, _, _, _, e => ⟨by rw [H.blk]; exact e.1, by rw [H.lk]; exact e.2.1, e.2.2⟩
  | .it h, u, _, _, _, e => ⟨by rw [H.blk]; exact e.1, by rw [H.lk]; exact e.2.1, e.2.2⟩
  | .bx h i off, u, _, hb, _, ⟨a, b, e1, e2, e3⟩ => ⟨a, b, by rw [H.hdr h (by simpa [AV.men] using hb)]; exact e1, e2, e3⟩
theorem AReps.adp {k g gb : Nat} {L L' : Lay} {w w' : World} (H : Adp k g gb L w L' w') : ∀ (xs : List AV) (us : List Value), AV.mens k xs = false → AV.mens gb xs = false → AV.mencs g xs = false → AReps L w xs us → AReps L' w' xs us
  | [], _, _, _, _, hr => hr
  | x :: xs, _, hk, hb, hg, ⟨u, ut, e, k1, k2⟩ => by
    simp only [AV.mens, Bool.or_eq_false_iff] at hk hb
    simp only [AV.mencs, Bool.or_eq_false_iff] at hg
    exact ⟨u, ut, e, ARep.adp H x u hk.1 hb.1 hg.1 k1, AReps.adp H xs ut hk.2 hb.2 hg.2 k2⟩
end
theorem mens_kill_of {k h : Nat} : ∀ {xs : List AV}, AV.mens k xs = false → AV.mens k (xs.map (AV.kill h)) = false
  | [], _ => rfl
  | x :: xs, hx => by
    simp only [AV.mens, Bool.or_eq_false_iff] at hx
    simp only [List.map_cons, AV.mens, Bool.or_eq_false_iff]
    refine ⟨?_, mens_kill_of hx.2⟩
    unfold AV.kill; split
    · rfl
    · exact hx.1
theorem mencs_kill_of {k h : Nat} : ∀ {xs : List AV}, AV.mencs k xs = false → AV.mencs k (xs.map (AV.kill h)) = false
  | [], _ => rfl
  | x :: xs, hx => by
    simp only [AV.mencs, Bool.or_eq_false_iff] at hx
    simp only [List.map_cons, AV.mencs, Bool.or_eq_false_iff]
    refine ⟨?_, mencs_kill_of hx.2⟩
    unfold AV.kill; split
    · rfl
    · exact hx.1
section
variable {P : Program} {W0 : World} {L0 L : Lay} {env : List AV} {S : Sto} {w : World} {a : Act}
theorem boxes_at (hr : Rel W0 L0 L env S w a) {g : Nat} {c : List AV} {u : Value} (hm : ARep L w (.mp g) u) (hg3 : 3000000000 ≤ g) (hc : S.get g = some c) (hb : g < 5000000000 ∨ (c.length = 0 ∨ ∃ (i gb j : Nat) (kd : D) (cs : List D), c[i]? = some (bxE gb j kd cs))) : ∃ es n, u = .map (some (L.blk g)) ∧ w.heap[L.blk g]? = some (.map es n) ∧ bornOk es n ∧ boxOk L w g es ∧ L.own (L.blk g) = some g ∧ AReps L w c (boxVs w es) ∧ L.lk g = none := by
  obtain ⟨rm, rk, rg⟩ := hm
  obtain ⟨vs, e0, e3⟩ := (hr.objs g c hc).2 (by omega)
  obtain ⟨es, n, h1, hbo, hbx, h2, rfl⟩ := e0.boxAt rk hg3 (hb.imp id fun hb => bx_no hb e3)
  exact ⟨es, n, rm, h1, hbo, hbx, h2, e3, rk⟩
theorem mk_lookupB {dst type pos after guard} (hr : Rel W0 L0 L env S w a) (m x : Operand) (t : Nat) (ok : Bool) {g kt et : Nat} {c : List AV} {kd : D} {kv : Value} (hm : aval env m = .mp g) (hg3 : 3000000000 ≤ g) (hc : S.get g = some c) (hx : aval env x = .d kd) (hkv : kd.val? = some kv)
    (ht : mapTy P t = some (kt, et)) (K : Keyed P kt) (hok : bmapOk P kt (g + 1000000000) c) (hkey : (keyOf P kt kv).isSome = true) (hz : zeroed P et = true) :
    ∃ r, ((∃ j kd' cs, r = some j ∧ c[j]? = some (bxE (g + 1000000000) j kd' cs) ∧ kd'.val? = some kv) ∨ (r = none ∧ ∀ i kd' cs, c[i]? = some (bxE (g + 1000000000) i kd' cs) → kd'.val? ≠ some kv)) ∧ Mk P W0 L0 a w ⟨dst, .lookup t m x ok, type, pos, after, guard⟩ env S (lookBV (g + 1000000000) (zeroA P et) ok r) := by
  have rm := aval_rep hr.slots m
  rw [hm] at rm
  have rx := aval_rep hr.slots x
  rw [hx] at rx
  have rx := D.val_rep hkv rx
  obtain ⟨es, n, rm, h1, hbo, hbx, h2, e3, _⟩ := boxes_at hr rm hg3 hc (.inr hok.boxes.no)
  have hu := mapTy_spec ht
  obtain ⟨l, hl⟩ := Option.isSome_iff_exists.1 hkey
  have two : ∀ (p q : AV) (u v : Value), ARep L w p u → ARep L w q v → ARep L w (AV.mkTup [p, q]) (.tuple #[u, v]) := fun p q u v hp hq =>
    AV.mkTup_rep ⟨u, [v], rfl, hp, v, [], rfl, hq, rfl⟩
  rcases findB K e3 hok hkey with ⟨q1, q2⟩ | ⟨j, y, kd', cs, q1, q2, q4, q5, q6⟩
  · unfold zeroed at hz
    cases hi : P.info? et with
    | none => simp [hi] at hz
    | some i =>
      cases hzz : i.zero with
      | none => simp [hi, hzz] at hz
      | some z =>
        have hzero : (zeroValue et).run P w = .ok z w := by simp [zeroValue, run_typeInfo' hi, hzz]
        have hzA : zeroA P et = cst z := by simp [zeroA, hi, hzz]
        refine ⟨none, .inr ⟨rfl, q2⟩, (if ok then .tuple #[z, .bool false] else z), w, L, ?_, hr, ?_⟩
        · simp only [execOp, Instr.lookup, Sem.run_bind, run_underlying' hu, Result.andThen_ok, show a.eval m = _ from rm, show a.eval x = kv from rx, MapKept.run_getObj_map h1, Sem.run_pure, K.check w _ hl, q1, hzero]
        · rw [hzA]
          cases ok
          · exact cst_rep z
          · exact two _ _ _ _ (cst_rep z) rfl
  · refine ⟨some j, .inl ⟨j, kd', cs, rfl, q4, q5⟩, (if ok then .tuple #[y.val, .bool true] else y.val), w, L, ?_, hr, ?_⟩
    · simp only [execOp, Instr.lookup, Sem.run_bind, run_underlying' hu, Result.andThen_ok, show a.eval m = _ from rm, show a.eval x = kv from rx, MapKept.run_getObj_map h1, Sem.run_pure, K.check w _ hl, q1]
    · cases ok
      · exact q6
      · exact two (.bx _ j 0) (.b true) _ (.bool true) q6 rfl
theorem iterB_at (hr : Rel W0 L0 L env S w a) {h g n : Nat} {seen : List Nat} {c : List AV} (hh : S.get h = some (itc g n seen)) (hk : L.lk h = none) (h2 : 2000000000 ≤ h) (hc : S.get g = some c) (hg3 : 3000000000 ≤ g) (hn : c.length = n) (hb : g < 5000000000 ∨ (c.length = 0 ∨ ∃ (i gb j : Nat) (kd : D) (cs : List D), c[i]? = some (bxE gb j kd cs))) :
    ∃ es : Array MapEntry, w.heap[L.blk h]? = some (.mapIter (some (L.blk g)) n seen.toArray n) ∧ L.own (L.blk h) = some h ∧ w.heap[L.blk g]? = some (.map es n) ∧ bornOk es n ∧ L.own (L.blk g) = some g ∧ AReps L w c (boxVs w es) ∧ (L.lk g = none ∧ 2000000000 ≤ g) := by
  obtain ⟨vs, e1, u0, t0, rfl, k1, u1, t1, rfl, k2, u2, t2, rfl, k3, e4⟩ := (hr.objs h _ hh).2 (by omega)
  obtain rfl : t2 = [] := e4
  obtain ⟨rfl, q1, q2⟩ := k1
  have k2 : u1 = .int .i64 n := k2
  subst k2
  obtain ⟨us, rfl, k3⟩ := k3
  have k3 := ints_reps k3
  obtain ⟨b, since, sa, c0, f1, rfl, f3, f4⟩ := e1.iterAt hk h2
  unfold itVs at f4
  simp only [List.cons.injEq, Value.map.injEq, Option.some.injEq, Value.int.injEq, true_and, Value.agg.injEq, and_true] at f4
  obtain ⟨rfl, f5, f6⟩ := f4
  have f5 : n = c0 := by omega
  subst f5
  have f7 : seen = sa.toList := by
    apply int_list_inj
    rw [← k3, f6, Array.toList_map]
  obtain ⟨es, n', _, j1, j2, _, j3, g2, _⟩ := boxes_at hr (u := .map (some (L.blk g))) ⟨rfl, q1, q2⟩ hg3 hc hb
  have hlen := boxes_len g2
  have hn' : n' = n := by rw [j2.1]; omega
  subst hn'
  refine ⟨es, by rw [f1, f7], f3, j1, j2, j3, g2, q1, q2⟩
theorem mk_rangeB {dst type pos after guard} (hr : Rel W0 L0 L env S w a) {k : Nat} (hk : 2000000000 ≤ k) (hk3 : k < 3000000000) (t : Nat) (m : Operand) {g kt et : Nat} {c : List AV} (hg3 : 3000000000 ≤ g) (hg5 : g < 5000000000) (hm : aval (env.map (AV.kill k)) m = .mp g) (hc : (S.kill k).get g = some c) (ht : mapTy P t = some (kt, et)) :
    Mk P W0 L0 a w ⟨dst, .range t m, type, pos, after, guard⟩ (env.map (AV.kill k)) ((S.kill k).ins k (itc g c.length [])) (.it k) := by
  have hr := hr.kill k
  have hk0 : k ≠ 0 := by omega
  have hme := mens_kill k env
  have hs := Sto.mens_killed k S
  have hg := Sto.kill_none k S
  generalize env.map (AV.kill k) = env at *
  generalize S.kill k = S at *
  have rm := aval_rep hr.slots m
  rw [hm] at rm
  have rmm := rm
  obtain ⟨_, rk, rg⟩ := rmm
  have hgk : g ≠ k := fun e => by rw [e, hg] at hc; cases hc
  obtain ⟨es, n', rm, j1, j2, _, j3, g2, _⟩ := boxes_at hr rm hg3 hc (.inl hg5)
  have hlen := boxes_len g2
  have hn' : n' = c.length := by rw [j2.1]; omega
  subst hn'
  let L' : Lay := { L with own := fun b => if b = w.heap.size then some k else L.own b, blk := fun g => if g = k then w.heap.size else L.blk g }
  have hsame : Same k L w L' (w.alloc (.mapIter (some (L.blk g)) c.length #[] c.length)) := ⟨fun b hb _ => ⟨RowKit.Below.heap_alloc w _ b hb, by simp [L', Nat.ne_of_lt hb]⟩, fun g hg => by simp [L', hg], fun _ _ => rfl, rfl, fun _ _ => rfl⟩
  have h1 := hr.step hk0 hsame hme hs hg (hr.not_old hk0) (by simp) (fun b g hb => by
    simp only [L'] at hb
    split at hb
    · rename_i e; subst e; simp
    · have := hr.own_lt b g hb; simp; omega) rfl rfl rfl
  have hlk : L.lk k = none := by
    cases h : L.lk k with
    | none => rfl
    | some r => have := (hr.lkb k r (by rw [← hr.lke, h])).1; omega
  have hu := mapTy_spec ht
  refine ⟨.pointer (some ⟨w.heap.size, 0, none⟩), w.alloc (.mapIter (some (L.blk g)) c.length #[] c.length), L', ?_, { h1 with objs := fun g' c' hgc => ?_ }, by simp [L'], hlk, hk⟩
  · simp only [execOp, Instr.range, Sem.run_bind, run_underlying' hu, Result.andThen_ok, show a.eval m = _ from rm, MapKept.run_getObj_map j1, Sem.run_pure, newObj]
    rfl
  · rw [Sto.get_ins hg] at hgc
    split at hgc
    · rename_i e; subst e; simp at hgc; subst hgc
      refine ⟨fun h0 => absurd h0 hk0, fun _ => ⟨itVs (L.blk g) c.length #[], by unfold Held; rw [show L'.lk k = none from hlk]; exact .inl ⟨by simp [L'], .inr (.inl ⟨⟨hk, hk3⟩, .inr ⟨_, _, _, _, by simp only [L', if_true]; exact heap_alloc_new w _, rfl, rfl⟩⟩)⟩, ?_⟩⟩
      exact ⟨_, _, rfl, ⟨by simp [L', hgk], rk, rg⟩, _, _, rfl, rfl, _, _, rfl, ⟨#[], by simp, rfl⟩, rfl⟩
    · exact h1.objs g' c' hgc
theorem mk_nextB {dst type pos after guard} (hr : Rel W0 L0 L env S w a) (it : Operand) {h g n : Nat} {seen : List Nat} {c : List AV} (hi : aval env it = .it h) (hh : S.get h = some (itc g n seen)) (hc : S.get g = some c) (hh3 : h < 3000000000) (hg3 : 3000000000 ≤ g) (hp : boxesOk (g + 1000000000) c) (hn : c.length = n) (hme : AV.mencs h env = false) (hms : S.mencs h = false) :
    ((∀ i, i < n → i ∈ seen) ∧ Mk P W0 L0 a w ⟨dst, .next it false, type, pos, after, guard⟩ env S (.tup [.b false])) ∨
    ∃ i kd cs, (i < n ∧ i ∉ seen ∧ c[i]? = some (bxE (g + 1000000000) i kd cs)) ∧ Mk P W0 L0 a w ⟨dst, .next it false, type, pos, after, guard⟩ env (S.upd h (itc g n (seen ++ [i]))) (.tup [.b true, .d kd, .bx (g + 1000000000) i 0]) := by
  have rm := aval_rep hr.slots it
  rw [hi] at rm
  obtain ⟨rm, rk, rg⟩ := rm
  obtain ⟨es, w1, w2, w3, w4, w5, w6, w7⟩ := iterB_at hr hh rk rg hc hg3 hn (.inr hp.no)
  have hlen : es.size = n := w4.1.symm
  rcases run_next_at (P := P) w type (L.blk h) (L.blk g) n n seen.toArray es n w1 w3 (fun x hx => by
    obtain ⟨i, hi, rfl⟩ := List.getElem_of_mem hx
    have hi' : i < es.size := by simpa using hi
    rw [w4.2 i _ (List.getElem?_eq_getElem hi)]; omega) (Nat.le_refl _) with ⟨r1, r2⟩ | ⟨e, r1, wd, r2, r3⟩
  · refine .inl ⟨fun i hi => ?_, .tuple #[.bool false], w, L, by simp only [execOp, show a.eval it = _ from rm, r2, Sem.run_bind, Result.andThen_ok, Sem.run_pure], hr, ⟨_, rfl, _, _, rfl, rfl, rfl⟩⟩
    have hi' : i < es.toList.length := by simpa [hlen] using hi
    have hb := w4.2 i _ (List.getElem?_eq_getElem hi')
    have hz : leftOf es seen.toArray = #[] := Array.eq_empty_of_size_eq_zero r1
    unfold leftOf at hz
    rw [Array.filter_eq_empty_iff] at hz
    have := hz es.toList[i] (by simp)
    rw [hb] at this
    simpa using this
  · unfold leftOf at r1
    simp only [Array.toList_filter, List.mem_filter] at r1
    obtain ⟨r4, r5⟩ := r1
    obtain ⟨i, hi, rfl⟩ := List.getElem_of_mem r4
    have hi' : i < n := by rw [← hlen]; simpa using hi
    have hb := w4.2 i _ (List.getElem?_eq_getElem hi)
    have hci : i < c.length := by omega
    obtain ⟨kd, cs, hcg⟩ := hp i hci
    obtain ⟨k1, k2, _⟩ := bent_at w6 hcg (List.getElem?_eq_getElem hi)
    rw [hb] at r5 r3
    generalize es.toList[i] = e at *
    refine .inr ⟨i, kd, cs, ⟨hi', by simpa using r5, hcg⟩, ?_⟩
    have hh0 : h ≠ 0 := by omega
    have hgh : g ≠ h := by omega
    have hwd : wd.heap = w.heap ∧ wd.os = w.os ∧ wd.tape = w.tape ∧ wd.output = w.output := r2.elim (fun q => by rw [q]; exact ⟨rfl, rfl, rfl, rfl⟩) (fun q => by rw [q]; exact ⟨rfl, rfl, rfl, rfl⟩)
    obtain ⟨hdh, hos, hta, hou⟩ := hwd
    have hw1 : wd.heap[L.blk h]? = some (.mapIter (some (L.blk g)) n seen.toArray n) := by rw [hdh]; exact w1
    obtain ⟨o', ho'⟩ : ∃ o', o' = Obj.mapIter (some (L.blk g)) n (seen.toArray.push i) n := ⟨_, rfl⟩
    rw [← ho'] at r3
    have hlt : L.blk h < wd.heap.size := lt_of_heap hw1
    have hoth : ∀ b, b ≠ L.blk h → (ChangeMaps.setBlock wd (L.blk h) o').heap[b]? = w.heap[b]? := fun b hb => by
      rw [← hdh]
      simp only [ChangeMaps.setBlock, Array.getElem?_setIfInBounds]
      rw [if_neg (fun e => hb e.symm)]
    have hthis : (ChangeMaps.setBlock wd (L.blk h) o').heap[L.blk h]? = some o' := by
      simp only [ChangeMaps.setBlock, Array.getElem?_setIfInBounds, if_true, hlt]
    have hsz : (ChangeMaps.setBlock wd (L.blk h) o').heap.size = w.heap.size := by rw [← hdh]; simp [ChangeMaps.setBlock]
    have hos' : (ChangeMaps.setBlock wd (L.blk h) o').os = w.os := hos
    have hta' : (ChangeMaps.setBlock wd (L.blk h) o').tape = w.tape := hta
    have hou' : (ChangeMaps.setBlock wd (L.blk h) o').output = w.output := hou
    have hsame : Same h L w L (ChangeMaps.setBlock wd (L.blk h) o') := ⟨fun b hb hne => ⟨hoth b (fun e => hne (by rw [e]; exact w2)), rfl⟩, fun _ _ => rfl, fun _ _ => rfl, rfl, fun _ _ => rfl⟩
    generalize ChangeMaps.setBlock wd (L.blk h) o' = w' at *
    have hst := AReps.st hsame _ _ hme hr.slots
    refine ⟨.tuple #[.bool true, e.key, e.val], w', L, by simp only [execOp, show a.eval it = _ from rm, r3, Sem.run_bind, Result.andThen_ok, Sem.run_pure], { hr with lkb := by rw [hsz]; exact hr.lkb, kept := hr.kept_same hh0 hsame, mks := hr.mks_same hh0 hsame, slots := hst, objs := ?_, old := ?_, size := by rw [hsz]; exact hr.size, own_lt := fun b g' hb => by rw [hsz]; exact hr.own_lt b g' hb, os := hos'.trans hr.os, tape := hta'.trans hr.tape, output := hou'.trans hr.output }, ?_⟩
    · intro h' cs' hcs'
      rw [Sto.get_upd] at hcs'
      by_cases hgh' : h = h'
      · subst hgh'
        rw [if_pos rfl, hh] at hcs'
        simp at hcs'; subst hcs'
        refine ⟨fun h0 => absurd h0 hh0, fun _ => ⟨itVs (L.blk g) n (seen.toArray.push i), by unfold Held; rw [rk]; exact .inl ⟨w2, .inr (.inl ⟨⟨rg, hh3⟩, .inr ⟨_, _, _, _, by rw [hthis, ho'], rfl, rfl⟩⟩)⟩, ?_⟩⟩
        refine ⟨_, _, rfl, ⟨rfl, w7⟩, _, _, rfl, rfl, _, _, rfl, ⟨(seen.toArray.push i).map fun (i : Nat) => Value.int .i64 (i : Int), rfl, ?_⟩, rfl⟩
        rw [Array.toList_map, Array.toList_push]
        exact reps_ints _
      · rw [if_neg hgh'] at hcs'
        refine ⟨fun h0 => AReps.st hsame _ _ (Sto.mencs_get hms hcs') ((hr.objs h' cs' hcs').1 h0), fun h0 => ?_⟩
        obtain ⟨vs', f1, f3⟩ := (hr.objs h' cs' hcs').2 h0
        exact ⟨vs', f1.congr rfl (fun _ => rfl) (fun b hb ho => hsame.heap b hb (by rcases ho with ho | ho <;> rw [ho] <;> simp <;> first | exact fun e => hgh' e.symm | exact fun e => hh0 e.symm)), AReps.st hsame _ _ (Sto.mencs_get hms hcs') f3⟩
    · intro b hb hb0
      have q1 := hr.old b hb hb0
      have q2 := hsame.heap b (Nat.lt_of_lt_of_le hb hr.size) (fun e => hr.not_old hh0 b hb e hb0)
      exact ⟨q1.1, q2.1.trans q1.2⟩
    · exact ⟨_, rfl, _, _, rfl, rfl, _, _, rfl, DRep.mono hsame.mem _ _ k1, _, _, rfl, ARep.st hsame _ _ rfl k2, rfl⟩
theorem mk_entryB {dst type pos after guard} (hr : Rel W0 L0 L env S w a) (it : Operand) {h g n i : Nat} {seen : List Nat} {c : List AV} {kd : D} {cs : List D} (hi : aval env it = .it h) (hh : S.get h = some (itc g n (seen ++ [i]))) (hc : S.get g = some c) (hg3 : 3000000000 ≤ g) (hn : c.length = n) (hci : c[i]? = some (bxE (g + 1000000000) i kd cs)) :
    Mk P W0 L0 a w ⟨dst, .entry it, type, pos, after, guard⟩ env S (.tup [.d kd, .bx (g + 1000000000) i 0]) := by
  have rm := aval_rep hr.slots it
  rw [hi] at rm
  obtain ⟨rm, rk, rg⟩ := rm
  obtain ⟨es, w1, w2, w3, w4, w5, w6, w7⟩ := iterB_at hr hh rk rg hc hg3 hn (.inr (.inr ⟨_, _, _, _, _, hci⟩))
  have hil : i < c.length := (List.getElem?_eq_some_iff.1 hci).1
  have hlen : es.size = n := w4.1.symm
  have hie : i < es.toList.length := by simp [hlen]; omega
  have hb := w4.2 i _ (List.getElem?_eq_getElem hie)
  obtain ⟨k1, k2, _⟩ := bent_at w6 hci (List.getElem?_eq_getElem hie)
  have hnd : (es.toList.map (·.born)).Nodup := by
    have : es.toList.map (·.born) = List.range es.toList.length := by
      apply List.ext_getElem (by simp)
      intro j h1 h2
      have hj : j < es.toList.length := by simpa using h1
      simp [w4.2 j _ (List.getElem?_eq_getElem hj)]
      exact w4.2 j _ (by simp at hj; simp [hj])
    rw [this]; exact List.nodup_range
  have hrun := run_entry_at (P := P) w (L.blk h) (L.blk g) n seen.toArray es n es.toList[i] (by rw [w1, hb]; simp) w3 (List.getElem_mem hie) hnd
  exact ⟨_, w, L, by simp only [execOp, show a.eval it = _ from rm, hrun, Sem.run_bind, Result.andThen_ok, Sem.run_pure], hr, ⟨_, rfl, _, _, rfl, k1, _, _, rfl, k2, rfl⟩⟩
theorem box_at (hr : Rel W0 L0 L env S w a) {gb i off : Nat} {u : Value} {c : List AV} {kd : D} {cs : List D} (hx : ARep L w (.bx gb i off) u) (hg4 : 4000000000 ≤ gb) (hc : S.get (gb - 1000000000) = some c) (hci : c[i]? = some (bxE gb i kd cs)) :
    ∃ es n x b C ty, w.heap[L.blk (gb - 1000000000)]? = some (.map es n) ∧ bornOk es n ∧ boxOk L w (gb - 1000000000) es ∧ L.own (L.blk (gb - 1000000000)) = some (gb - 1000000000) ∧ AReps L w c (boxVs w es) ∧ L.lk (gb - 1000000000) = none ∧ es.toList[i]? = some x ∧ x.val = .pointer (some ⟨b, 0, none⟩) ∧ u = .pointer (some ⟨b, off, none⟩) ∧ w.heap[b]? = some (.cells C ty (0, 0)) ∧ L.own b = some (gb - 1000000000) ∧ DReps (L.mem w) cs C.toList ∧ DRep (L.mem w) kd x.key := by
  have hk : L.lk (gb - 1000000000) = none := by
    cases hh : L.lk (gb - 1000000000) with
    | none => rfl
    | some r => have := hr.lk2 _ r hh; omega
  obtain ⟨es, n, _, j1, j2, j3, j4, g2, _⟩ := boxes_at hr (u := .map (some (L.blk (gb - 1000000000)))) ⟨rfl, hk, by omega⟩ (by omega) hc (.inr (.inr ⟨_, _, _, _, _, hci⟩))
  have hlen := boxes_len g2
  have hi : i < es.toList.length := by
    have := (List.getElem?_eq_some_iff.1 hci).1
    simpa [hlen] using this
  obtain ⟨k1, k2, k3⟩ := bent_at g2 hci (List.getElem?_eq_getElem hi)
  obtain ⟨b, C, ty, p1, p2, p3⟩ := j3.1 _ (List.getElem_mem hi)
  obtain ⟨a1, b1, e1, e2, e3⟩ := hx
  obtain ⟨a2, b2, f1, f2, f3⟩ := k2
  rw [e1] at f1
  cases f1
  rw [e2] at f2
  simp only [Option.some.injEq, Value.int.injEq, true_and] at f2
  have f2 : b1 = b2 := by omega
  subst f2
  rw [p1] at f3
  cases f3
  refine ⟨es, n, es.toList[i], b, C, ty, j1, j2, j3, j4, g2, hk, List.getElem?_eq_getElem hi, p1, e3, p2, p3, ?_, k1⟩
  rw [p1] at k3
  simpa only [boxC, p2] using k3
theorem boxVs_set {es : Array MapEntry} {w w' : World} {i b : Nat} {x : MapEntry} {C' : Array Value} {ty : Nat} (hx : es.toList[i]? = some x) (hv : x.val = .pointer (some ⟨b, 0, none⟩)) (hok : (∀ y ∈ es.toList, ∃ b, y.val = .pointer (some ⟨b, 0, none⟩)) ∧ (es.toList.map (·.val)).Nodup) (hb : w'.heap[b]? = some (.cells C' ty (0, 0))) (ho : ∀ b', b' ≠ b → w'.heap[b']? = w.heap[b']?) :
    boxVs w' es = (boxVs w es).set i (.tuple #[x.key, x.val, .agg C']) := by
  have hi : i < es.toList.length := (List.getElem?_eq_some_iff.1 hx).1
  apply List.ext_getElem?
  intro j
  rw [List.getElem?_set]
  by_cases hij : i = j
  · subst hij
    rw [if_pos rfl, boxVs_at hx, if_pos (by unfold boxVs; rw [List.length_map]; exact hi)]
    rw [hv]; simp only [boxC, hb]
  · rw [if_neg hij]
    cases hj : es.toList[j]? with
    | none => unfold boxVs; rw [List.getElem?_map, List.getElem?_map, hj]; rfl
    | some y =>
      rw [boxVs_at hj, boxVs_at hj]
      obtain ⟨b', hy⟩ := hok.1 y (List.mem_of_getElem? hj)
      have hne : b' ≠ b := fun e => by
        subst e
        have h1 : (es.toList.map (·.val))[i]? = some (.pointer (some ⟨b', 0, none⟩)) := by rw [List.getElem?_map, hx, Option.map_some, hv]
        have h2 : (es.toList.map (·.val))[j]? = some (.pointer (some ⟨b', 0, none⟩)) := by rw [List.getElem?_map, hj, Option.map_some, hy]
        exact hij ((List.getElem?_inj (by rw [List.length_map]; exact hi) hok.2).1 (h1.trans h2.symm))
      rw [hy]; simp only [boxC, ho b' hne]
theorem mk_storeB {dst type pos after guard} (hr : Rel W0 L0 L env S w a) (t gb i off n : Nat) (ag : Bool) (x y : Operand) {c : List AV} {kd : D} {cs vs : List D} (hx : aval env x = .bx gb i off) (hg4 : 4000000000 ≤ gb) (hc : S.get (gb - 1000000000) = some c) (hci : c[i]? = some (bxE gb i kd cs)) (ht : lt P t = some (ag, n)) (hsz : okSz P t = true)
    (hy : (aval env y).dcells = some vs) (hn : vs.length = n) (ho : off + n ≤ cs.length) (h1 : vs.all D.one = true) (hm : AV.mencs (gb - 1000000000) env = false) (hms : S.mencs (gb - 1000000000) = false) :
    Mks P W0 L0 a w ⟨dst, .store t x y, type, pos, after, guard⟩ env (S.upd (gb - 1000000000) (c.set i (bxE gb i kd (setR cs off vs)))) := by
  have rx := aval_rep hr.slots x
  rw [hx] at rx
  have rxx := rx
  have ry := AV.dcells_rep hy (aval_rep hr.slots y)
  have ry1 := one_all h1 ry
  obtain ⟨es, nn, xe, b, C, ty, e1, e2, e3, e4, e5, hk, e6, e7, e8, e9, e10, e11, e12⟩ := box_at hr rx hg4 hc hci
  have hg : gb - 1000000000 ≠ 0 := by omega
  have hg3 : 3000000000 ≤ gb - 1000000000 := by omega
  generalize hgg : gb - 1000000000 = g at *
  have hvl : (a.eval y).cells.size = n := by have := ry.length; rw [hn] at this; simpa using this
  have hcl : C.size = cs.length := by have := e11.length; simpa using this
  have hst := run_storeCells_at P b off ty (a.eval y).cells.toList 0 C w e9 (by simp; omega) ry1
  simp only [Nat.add_zero, Array.length_toList] at hst
  have hcs : (C.toList.take off ++ (a.eval y).cells.toList ++ C.toList.drop (off + (a.eval y).cells.size)) = setR C.toList off (a.eval y).cells.toList := by
    have := setR_eq C.toList off (a.eval y).cells.toList (by simp; omega)
    simpa using this
  rw [hcs] at hst
  have hsame : Same g L w L (w.setRow b (setR C.toList off (a.eval y).cells.toList).toArray) := setRow_same e10
  have hw' := setRow_heap w b C (setR C.toList off (a.eval y).cells.toList).toArray ty (0, 0) e9
  have hoth : ∀ b', b' ≠ b → (w.setRow b (setR C.toList off (a.eval y).cells.toList).toArray).heap[b']? = w.heap[b']? := fun b' hb' => setRow_other w b b' _ hb'
  refine ⟨_, L, ?_, { hr with lkb := by simpa using hr.lkb, kept := hr.kept_same hg hsame, mks := hr.mks_same hg hsame, slots := AReps.st hsame _ _ hm hr.slots, objs := ?_, old := ?_, size := ?_, own_lt := ?_, os := hr.os, tape := hr.tape, output := hr.output }⟩
  · simp only [execOp, Instr.storeAt, show a.eval x = _ from e8, Instr.sureAddr, Sem.run_bind, Sem.run_pure, Result.andThen_ok, storeVar, szOf ht (okSz_spec ht hsz)]
    rw [if_neg (by simp [hvl])]
    simp [hst]
  · intro h cs' hcs'
    rw [Sto.get_upd] at hcs'
    by_cases hgh : g = h
    · subst hgh
      rw [if_pos rfl, hc] at hcs'
      simp at hcs'; subst hcs'
      have hmb : L.blk g ≠ b := fun e => by rw [e, e9] at e1; cases e1
      have hset := boxVs_set (w := w) e6 e7 ⟨fun y hy => by obtain ⟨b, _, _, q, _⟩ := e3.1 y hy; exact ⟨b, q⟩, e3.2⟩ hw' hoth
      have hbx : boxOk L (w.setRow b (setR C.toList off (a.eval y).cells.toList).toArray) g es := ⟨fun y hy => by
        obtain ⟨b', C', t', q1, q2, q3⟩ := e3.1 y hy
        by_cases hbb : b' = b
        · subst hbb; exact ⟨b', _, ty, q1, hw', q3⟩
        · exact ⟨b', C', t', q1, (hoth _ hbb).trans q2, q3⟩, e3.2⟩
      refine ⟨fun h0 => absurd h0 hg, fun _ => ⟨boxVs (w.setRow b (setR C.toList off (a.eval y).cells.toList).toArray) es, by unfold Held; rw [hk]; exact .inl ⟨e4, .inr (.inr ⟨hg3, es, nn, (hoth _ hmb).trans e1, e2, hbx, rfl⟩)⟩, ?_⟩⟩
      · rw [hset]
        have hcm := Sto.mencs_get hms hc
        refine AReps.set (AReps.st hsame _ _ hcm e5) i ?_
        have hpt : ARep L (w.setRow b (setR C.toList off (a.eval y).cells.toList).toArray) (.bx gb i 0) xe.val := by
          obtain ⟨a1, b1, f1, f2, f3⟩ := rxx
          rw [e8] at f3
          cases f3
          exact ⟨a1, b, f1, f2, e7⟩
        refine ⟨_, rfl, _, _, rfl, DRep.mono hsame.mem _ _ e12, _, _, rfl, hpt, _, _, rfl, ⟨_, rfl, ?_⟩, rfl⟩
        simpa using dreps_setR (off := off) (DReps.mono hsame.mem _ _ ry) (DReps.mono hsame.mem _ _ e11)
    · rw [if_neg hgh] at hcs'
      refine ⟨fun h0 => AReps.st hsame _ _ (Sto.mencs_get hms hcs') ((hr.objs h cs' hcs').1 h0), fun h0 => ?_⟩
      obtain ⟨vs', f1, f3⟩ := (hr.objs h cs' hcs').2 h0
      exact ⟨vs', f1.congr rfl (fun _ => rfl) (fun b hb ho => hsame.heap b hb (by rcases ho with ho | ho <;> rw [ho] <;> simp <;> first | exact fun e => hgh e.symm | exact fun e => hg e.symm)), AReps.st hsame _ _ (Sto.mencs_get hms hcs') f3⟩
  · intro b' hb hb0
    have h1 := hr.old b' hb hb0
    have h2 := hsame.heap b' (Nat.lt_of_lt_of_le hb hr.size) (fun e => hr.not_old hg b' hb e hb0)
    exact ⟨h1.1, h2.1.trans h1.2⟩
  · simpa using hr.size
  · intro b' g' hb; simpa using hr.own_lt b' g' hb
theorem mks_boxPut {dst type pos after guard} (hr : Rel W0 L0 L env S w a) (m x y : Operand) (t : Nat) {g kt et k : Nat} {c : List AV} {kd : D} {ds : List D} {kv : Value} (hm : aval env m = .mp g) (hg3 : 3000000000 ≤ g) (hc : S.get g = some c) (hx : aval env x = .d kd) (hy : aval env y = .ref k 0) (hk0 : k ≠ 0) (hkc : S.get k = some (ds.map .d)) (hkv : kd.val? = some kv)
    (ht : mapTy P t = some (kt, et)) (K : Keyed P kt) (hok : bmapOk P kt (g + 1000000000) c) (hkey : (keyOf P kt kv).isSome = true) (hno : ∀ i kd' cs, c[i]? = some (bxE (g + 1000000000) i kd' cs) → kd'.val? ≠ some kv) (hme : AV.mencs g env = false) (hms : S.mencs g = false) :
    Mks P W0 L0 a w ⟨dst, .mapUpdate t m x y, type, pos, after, guard⟩ ((env.map (AV.kill k)).map (AV.kill (g + 1000000000))) (((S.kill k).kill (g + 1000000000)).upd g (c ++ [bxE (g + 1000000000) c.length kd ds])) := by
  have rm := aval_rep hr.slots m
  rw [hm] at rm
  have rx0 := aval_rep hr.slots x
  rw [hx] at rx0
  have rx := D.val_rep hkv rx0
  have ry := aval_rep hr.slots y
  rw [hy] at ry
  obtain ⟨ry, hcel⟩ := ry
  have hg : g ≠ 0 := by omega
  have hgk : g ≠ k := by have := hcel.2; omega
  obtain ⟨es, n, rm, h1, hbo, hbx, h2, e3, rk⟩ := boxes_at hr rm hg3 hc (.inr hok.boxes.no)
  obtain ⟨vk, d0, d3⟩ := (hr.objs k _ hkc).2 hk0
  obtain ⟨C, ty, d1, d2, rfl⟩ := d0.cells hcel
  have hlen := boxes_len e3
  have hu := mapTy_spec ht
  obtain ⟨l, hl⟩ := Option.isSome_iff_exists.1 hkey
  have q1 : (Instr.findKey kt kv es.toList).run P w = .ok none w := by
    rcases findB K e3 hok hkey with ⟨q1, _⟩ | ⟨j, z, kd', cs, _, _, q4, q5, _⟩
    · exact q1
    · exact absurd q5 (hno j kd' cs q4)
  obtain ⟨es', hes⟩ : ∃ es', es' = es.push { key := a.eval x, val := a.eval y, born := n } := ⟨_, rfl⟩
  have hrun : (execOp a.eval ⟨dst, .mapUpdate t m x y, type, pos, after, guard⟩).run P w = .ok .skip (ChangeMaps.setBlock w (L.blk g) (.map es' (n + 1))) := by
    simp only [execOp, Instr.mapUpdate, Sem.run_bind, run_underlying' hu, Result.andThen_ok, show a.eval m = _ from rm, show a.eval x = kv from rx, MapKept.run_getObj_map h1, K.check w _ hl, q1, MapKept.run_setObj_map _ h1]
    rw [hes, show a.eval x = kv from rx]; rfl
  have hoth : ∀ b, b ≠ L.blk g → (ChangeMaps.setBlock w (L.blk g) (.map es' (n + 1))).heap[b]? = w.heap[b]? := fun b hb => ChangeMaps.heap_setBlock_other h1 _ hb
  have hthis : (ChangeMaps.setBlock w (L.blk g) (.map es' (n + 1))).heap[L.blk g]? = some (.map es' (n + 1)) := ChangeMaps.heap_setBlock_same h1 _
  have hsz : (ChangeMaps.setBlock w (L.blk g) (.map es' (n + 1))).heap.size = w.heap.size := by simp [ChangeMaps.setBlock]
  have hos : (ChangeMaps.setBlock w (L.blk g) (.map es' (n + 1))).os = w.os := rfl
  have hta : (ChangeMaps.setBlock w (L.blk g) (.map es' (n + 1))).tape = w.tape := rfl
  have hou : (ChangeMaps.setBlock w (L.blk g) (.map es' (n + 1))).output = w.output := rfl
  generalize ChangeMaps.setBlock w (L.blk g) (.map es' (n + 1)) = w' at *
  let L' : Lay := { L with own := fun b => if b = L.blk k then some g else L.own b, hdr := fun h => if h = g + 1000000000 then .tuple (es'.map fun z => .int .i64 (blkOf z.val)) else L.hdr h }
  have hA : Adp k g (g + 1000000000) L w L' w' := ⟨fun b hb hbk hbg => ⟨hoth b (fun e => hbg (by rw [e]; exact h2)), by simp only [L']; rw [if_neg (fun e => hbk (by rw [e]; exact d2))]⟩, rfl, fun h hh => by simp only [L']; rw [if_neg hh], rfl⟩
  have hrk := (hr.kill k).kill (g + 1000000000)
  have hm1 := mens_kill_of (h := g + 1000000000) (mens_kill k env)
  have hm2 := mens_kill (g + 1000000000) (env.map (AV.kill k))
  have hm3 := mencs_kill_of (h := g + 1000000000) (mencs_kill_of (h := k) hme)
  have hst := AReps.adp hA _ _ hm1 hm2 hm3 hrk.slots
  have hval : a.eval y = .pointer (some ⟨L.blk k, 0, none⟩) := ry
  have hown : ∀ b g', L'.own b = some g' → b < w'.heap.size := fun b g' hb => by
    rw [hsz]
    simp only [L'] at hb
    split at hb
    · rename_i e; subst e; exact lt_of_heap d1
    · exact hr.own_lt b g' hb
  have hnb : ∀ z ∈ es.toList, ∃ b c t, z.val = .pointer (some ⟨b, 0, none⟩) ∧ w'.heap[b]? = some (.cells c t (0, 0)) ∧ w.heap[b]? = some (.cells c t (0, 0)) ∧ b ≠ L.blk k ∧ L.own b = some g := fun z hz => by
    obtain ⟨b, c1, t1, p1, p2, p3⟩ := hbx.1 z hz
    exact ⟨b, c1, t1, p1, by rw [hoth b (fun e => by rw [e, h1] at p2; cases p2)]; exact p2, p2, fun e => by rw [e, d2] at p3; simp at p3; exact hgk p3.symm, p3⟩
  have hk1 : w'.heap[L.blk k]? = some (.cells C ty (0, 0)) := by rw [hoth _ (fun e => by rw [e, h1] at d1; cases d1)]; exact d1
  have hbx' : boxOk L' w' g es' := by
    rw [hes]
    refine ⟨fun z hz => ?_, ?_⟩
    · rw [Array.toList_push] at hz
      rcases List.mem_append.1 hz with hz | hz
      · obtain ⟨b, c1, t1, p1, p2, _, p4, p5⟩ := hnb z hz
        exact ⟨b, c1, t1, p1, p2, by simp only [L']; rw [if_neg p4]; exact p5⟩
      · simp only [List.mem_singleton] at hz; subst hz
        exact ⟨L.blk k, C, ty, hval, hk1, by simp only [L', if_true]⟩
    · rw [Array.toList_push, List.map_append]
      refine List.nodup_append.2 ⟨hbx.2, by simp, fun p hp q hq hpq => ?_⟩
      obtain ⟨z, hz, rfl⟩ := List.mem_map.1 hp
      simp only [List.map_cons, List.map_nil, List.mem_singleton] at hq
      obtain ⟨b, _, _, p1, _, _, p4, _⟩ := hnb z hz
      rw [hq, hval, p1] at hpq
      simp at hpq
      try exact p4 hpq
  have hbo' : bornOk es' (n + 1) := by rw [hes]; exact born_push hbo
  have hrep : AReps L' w' (c ++ [bxE (g + 1000000000) c.length kd ds]) (boxVs w' es') := by
    have hhdr : L'.hdr (g + 1000000000) = .tuple (es'.map fun z => .int .i64 (blkOf z.val)) := by simp only [L', if_true]
    have hes0 : ∀ (i : Nat) (z : MapEntry), es'.toList[i]? = some z → (es'.map fun z => Value.int .i64 (blkOf z.val))[i]? = some (.int .i64 (blkOf z.val)) := fun i z hz => by
      rw [Array.getElem?_map]
      rw [Array.getElem?_toList] at hz
      rw [hz]; rfl
    refine AReps.of_get (by simp [boxVs, hes, hlen]) fun i z u hz hu' => ?_
    cases hi : es'.toList[i]? with
    | none => unfold boxVs at hu'; rw [List.getElem?_map, hi] at hu'; simp at hu'
    | some en =>
      rw [boxVs_at hi] at hu'
      cases hu'
      have hpt : ∀ b, en.val = .pointer (some ⟨b, 0, none⟩) → ARep L' w' (.bx (g + 1000000000) i 0) en.val := fun b hb => ⟨_, b, hhdr, by rw [hes0 i en hi, hb]; rfl, hb⟩
      rw [List.getElem?_append] at hz
      have hi2 := hi
      rw [hes, Array.toList_push, List.getElem?_append, Array.length_toList, hlen] at hi2
      by_cases hic : i < c.length
      · rw [if_pos hic] at hz hi2
        obtain ⟨kd', cs, kv', f1, _⟩ := hok i hic
        rw [hz] at f1
        cases f1
        obtain ⟨j1, j2, j3⟩ := bent_at e3 hz hi2
        obtain ⟨b, c1, t1, p1, p2, p3, _, _⟩ := hnb en (List.mem_of_getElem? hi2)
        have hC : boxC w' en.val = boxC w en.val := by rw [p1]; simp only [boxC, p2, p3]
        rw [hC]
        exact ⟨_, rfl, _, _, rfl, DRep.mono hA.mem _ _ j1, _, _, rfl, hpt b p1, _, _, rfl, ⟨_, rfl, DReps.mono hA.mem _ _ j3⟩, rfl⟩
      · rw [if_neg hic] at hz hi2
        rw [List.getElem?_singleton] at hz hi2
        split at hz
        · rename_i h0
          rw [if_pos h0] at hi2
          cases hz
          cases hi2
          have hic2 : i = c.length := by omega
          rw [hic2] at hpt
          have hC : boxC w' (a.eval y) = C := by rw [hval]; simp only [boxC, hk1]
          refine ⟨_, rfl, _, _, rfl, DRep.mono hA.mem _ _ rx0, _, _, rfl, hpt _ hval, _, _, rfl, ⟨_, rfl, ?_⟩, rfl⟩
          rw [hC]
          have hds : ∀ {l : List D} {us : List Value}, AReps L w (l.map .d) us → DReps (L.mem w) l us := by
            intro l
            induction l with
            | nil => intro us h; exact h
            | cons q l ih => intro us ⟨u, ut, e, k1, k2⟩; exact ⟨u, ut, e, k1, ih k2⟩
          exact DReps.mono hA.mem _ _ (hds d3)
        · cases hz
  refine ⟨w', L', hrun, { hrk with lkb := by rw [hsz]; exact hrk.lkb, kept := ?_, mks := ?_, slots := hst, objs := ?_, old := ?_, size := by rw [hsz]; exact hr.size, own_lt := hown, os := hos.trans hr.os, tape := hta.trans hr.tape, output := hou.trans hr.output, lke := hr.lke }⟩
  · refine ⟨hr.mks.1, fun r hr' => ?_⟩
    obtain ⟨f1, f2⟩ := hr.mks.2 r hr'
    have := hA.heap r (lt_of_heap f1) (by rw [f2]; simpa using hk0.symm) (by rw [f2]; simpa using hg.symm)
    exact ⟨this.1.trans f1, this.2.trans f2⟩
  · intro b o hb
    obtain ⟨⟨o', f1, f3⟩, f2⟩ := hr.kept b o hb
    have := hA.heap b (lt_of_heap f1) (by rw [f2]; simpa using hk0.symm) (by rw [f2]; simpa using hg.symm)
    exact ⟨⟨o', this.1.trans f1, f3⟩, this.2.trans f2⟩
  · intro h cs' hcs'
    rw [Sto.get_upd] at hcs'
    by_cases hgh : g = h
    · subst hgh
      rw [if_pos rfl] at hcs'
      obtain ⟨c2, hc2, rfl⟩ := Option.map_eq_some_iff.1 hcs'
      exact ⟨fun h0 => absurd h0 hg, fun _ => ⟨boxVs w' es', by unfold Held; rw [show L'.lk g = none from rk]; exact .inl ⟨by simp only [L']; rw [if_neg (fun e => by rw [e, d1] at h1; cases h1)]; exact h2, .inr (.inr ⟨hg3, es', n + 1, hthis, hbo', hbx', rfl⟩)⟩, hrep⟩⟩
    · rw [if_neg hgh] at hcs'
      have hob := hrk.objs h cs' hcs'
      obtain ⟨hkb, c1, hc1, rfl⟩ := Sto.kill_get hcs'
      obtain ⟨hkk, c0, hc0, rfl⟩ := Sto.kill_get hc1
      have n1 := mens_kill_of (h := g + 1000000000) (mens_kill k c0)
      have n2 := mens_kill (g + 1000000000) (c0.map (AV.kill k))
      have n3 := mencs_kill_of (h := g + 1000000000) (mencs_kill_of (h := k) (Sto.mencs_get hms hc0))
      refine ⟨fun h0 => AReps.adp hA _ _ n1 n2 n3 (hob.1 h0), fun h0 => ?_⟩
      obtain ⟨vs', f1, f3⟩ := hob.2 h0
      exact ⟨vs', f1.congr rfl (fun _ => rfl) (fun b hb ho => hA.heap b hb (by rcases ho with ho | ho <;> rw [ho] <;> simp <;> first | exact hkk | exact fun e => hkk e | exact hk0.symm | exact fun e => hk0 e.symm) (by rcases ho with ho | ho <;> rw [ho] <;> simp <;> first | exact fun e => hgh e.symm | exact hg.symm | exact fun e => hg e.symm)), AReps.adp hA _ _ n1 n2 n3 f3⟩
  · intro b hb hb0
    have q1 := hr.old b hb hb0
    have q2 := hA.heap b (Nat.lt_of_lt_of_le hb hr.size) (fun e => hr.not_old hk0 b hb e hb0) (fun e => hr.not_old hg b hb e hb0)
    exact ⟨q2.2.trans q1.1, q2.1.trans q1.2⟩
end
end Go.E

namespace Go.E
open Go

def Lay.with (L : Lay) (h : List Value) (k : List (Nat × Obj)) : Lay := { L with hid := h, rd := none, kp := k }
def markObjs (ds : List Deferred) : List (Nat × Obj) := (marks ds).map fun r => (r, .deferred (some []))
theorem OwnRow.with {g e s : Nat} {L : Lay} {w : World} {rows : List (List D)} {u : Value} {h : List Value} {kp : List (Nat × Obj)} (k : OwnRow L w g e s rows u) : OwnRow (L.with h kp) w g e s rows u := k
mutual
theorem ARep.with {L : Lay} {w : World} {h : List Value} {kp : List (Nat × Obj)} : ∀ (x : AV) (u : Value), ARep L w x u → ARep (L.with h kp) w x u
  | .any, _, _ => trivial
  | .d _, _, k => k
  | .own _ _ _ _, _, k => k
  | .eref _ _ _ _ _ _, _, k => k
  | .ref _ _, _, k => k
  | .tup xs, _, ⟨us, e, k1⟩ => ⟨us, e, AReps.with xs _ k1⟩
  | .agg xs, _, ⟨us, e, k1⟩ => ⟨us, e, AReps.with xs _ k1⟩
  | .clo _ x y, _, ⟨xs, ys, e, k1, k2⟩ => ⟨xs, ys, e, AReps.with x _ k1, AReps.with y _ k2⟩
  | .iface _ x, _, ⟨y, e, k1⟩ => ⟨y, e, ARep.with x y k1⟩
  | .yld _ _ _ _ _, _, k => k
  | .mp _, _, k => k
  | .it _, _, k => k
  | .bx _ _ _, _, k => k
theorem AReps.with {L : Lay} {w : World} {h : List Value} {kp : List (Nat × Obj)} : ∀ (xs : List AV) (us : List Value), AReps L w xs us → AReps (L.with h kp) w xs us
  | [], _, k => k
  | x :: xs, _, ⟨u, ut, e, k1, k2⟩ => ⟨u, ut, e, ARep.with x u k1, AReps.with xs ut k2⟩
end
theorem Rel.hide {W0 : World} {L0 L0' L : Lay} {e e' : List AV} {s : Sto} {w : World} {a a' : Act} (hr : Rel W0 L0 L e s w a) {c : List AV} {h : List Value} (hs : (s.get 0).isSome = true)
    (hc : AReps L w c h) (hh : ∃ vs, h = vs ++ L0'.hid ∧ strip a'.defers = vs.map undv) (hmk : (marks a'.defers).Nodup ∧ ∀ r ∈ marks a'.defers, w.heap[r]? = some (.deferred (some [])) ∧ L.own r = some 0) (hmb : ∀ r ∈ marks a'.defers, W0.heap.size ≤ r ∧ ∀ o, (r, o) ∉ L0'.kp) (hkp : ∀ b o, (b, o) ∈ L0'.kp → (∃ o', w.heap[b]? = some o' ∧ likeObj o o') ∧ L.own b = some 0) (hrk : ∀ l, L0'.rd = some l → ∃ r, (l, Obj.loop r) ∈ L0'.kp) {kp : List (Nat × Obj)} (he : AReps L w e' a'.tmps.toList) (ho : ∀ b, L0'.own b = L0.own b) (hrd : L0'.rd = none ∨ L0'.hid ≠ []) {s' : Sto} (hs' : ∀ g, s'.get g = if 0 = g then some c else s.get g) (hlk : L0'.lk = L0.lk := by rfl) :
    Rel W0 L0' (L.with h kp) e' s' w a' :=
  { slots := AReps.with _ _ he
    hid := hh
    rd := hrd
    mks := hmk, mkb := hmb, kept := hkp, rdk := hrk
    lke := hr.lke.trans hlk.symm, lkb := by rw [hlk]; exact hr.lkb
    lki := by rw [hlk]; exact hr.lki
    objs := fun g cells hg => by
      rw [hs'] at hg
      by_cases h : 0 = g
      · subst h
        rw [if_pos rfl] at hg
        simp at hg; subst hg
        exact ⟨fun _ => AReps.with _ _ hc, fun h => absurd rfl h⟩
      · rw [if_neg h] at hg
        obtain ⟨_, h2⟩ := hr.objs g cells hg
        refine ⟨fun e => absurd e.symm h, fun hne => ?_⟩
        obtain ⟨vs, e1, e3⟩ := h2 hne
        exact ⟨vs, e1, AReps.with _ _ e3⟩
    old := fun b hb hb0 => by rw [ho]; exact hr.old b hb (by rw [← ho]; exact hb0)
    size := hr.size
    own_lt := hr.own_lt
    os := hr.os, tape := hr.tape, output := hr.output }
end Go.E

namespace Go.E
open Go Go.Maps

def eset (e : List AV) (d : Option Nat) (x : AV) : List AV := match d with | some i => e.set i x | none => e

def lift (W0 : World) (L0 : Lay) (Q : Exit → List AV → Sto → Prop) : Exit → Act → World → Prop := fun x a w => ∃ L e s, Rel W0 L0 L e s w a ∧ Q x e s

def callable (P : Program) (f : Nat) : Bool := match P.funcs[f]? with | some fn => fn.body.isSome && fn.name != "runtime.NumGoroutine" | none => false
theorem callable_run {P : Program} {f : Nat} (h : callable P f = true) (args : Array Value) (w : World) : (callFunc f args).run P w = .ok (.enter f args) w := by
  unfold callable at h
  cases hf : P.funcs[f]? with
  | none => simp [hf] at h
  | some fn =>
    cases hb : fn.body with
    | none => simp [hf, hb] at h
    | some c =>
      simp [hf, hb] at h
      simp [callFunc, hf, hb, h]

def pcall (P : Program) (f : Nat) (args : List AV) (K : AV → List AV → Sto → Prop) (Q : Exit → List AV → Sto → Prop) (e : List AV) (s : Sto) : Prop :=
  callable P f = true ∧ ∀ W0 L0 L w a (vs : Array Value), Rel W0 L0 L e s w a → AReps L w args vs.toList →
    Calls P f vs w (fun en w' => match en with
      | .returned v => ∃ L' e' s' r, Rel W0 L0 L' e' s' w' a ∧ ARep L' w' r v ∧ K r e' s'
      | .panicked c => ∃ L' e' s', Rel W0 L0 L' e' s' w' a ∧ Q (.panic c) e' s'
      | .outgrown => False)

def mth (P : Program) (t : Nat) (name : String) : Option Nat :=
  match P.info? t, P.underlying t with
  | some i, some d => (match i.methods.find? (·.name == name) with
    | some m => (match m.path.toList, m.func with
      | [], some (f, p) => (match d, p with | .pointer _, true => some f | .pointer _, false => none | _, false => some f | _, true => none)
      | _, _ => none)
    | none => none)
  | _, _ => none
theorem mth_run {P : Program} {t f : Nat} {name : String} (h : mth P t name = some f) (v : Value) (n : Nat) (w : World) : (method (n + 1) t v name).run P w = .ok (f, v) w := by
  unfold mth at h
  split at h
  · rename_i i d hi hd
    split at h
    · rename_i m hm
      split at h
      · rename_i f' p h1 h2
        have hfind : Array.find? (fun x => x.name == name) i.methods = some m := hm
        simp only [method, Sem.run_bind, run_typeInfo' hi, Result.andThen_ok, hfind, h1, follow, Sem.run_pure, h2, receiverAt, run_underlying' hd]
        cases d <;> cases p <;> simp only at h <;> first | (simp only [reduceCtorEq] at h; done) | (simp only [Option.some.injEq] at h; subst h; rfl)
      · cases h
    · cases h
  · cases h

theorem inv_run {P : Program} {t f : Nat} {m : String} (hm : mth P t m = some f) (hc : callable P f = true) (u : Value) (args : Array Value) (w : World) :
    (invoke (.fn (.method m) #[]) (#[.iface t u] ++ args)).run P w = .ok (.enter f (#[u] ++ args)) w := by
  have h0 : (#[Value.iface t u] ++ args)[0]? = some (.iface t u) := by simp [Array.getElem?_append]
  have h1 : (#[Value.iface t u] ++ args).extract 1 (#[Value.iface t u] ++ args).size = args := by
    apply Array.toList_inj.1; simp [Array.toList_extract, List.extract_eq_take_drop]
  have hmr := mth_run hm u (P.types.size + Made.depth - 1) w
  rw [show P.types.size + Made.depth - 1 + 1 = P.types.size + Made.depth by simp [Made.depth]] at hmr
  simp only [invoke, h0, h1, callMethod, Sem.run_bind, run_program, Result.andThen_ok, hmr, callable_run hc]

def target (P : Program) (x : AV) (args : List AV) : Option (Nat × List AV) :=
  match x with
  | .d (.v (.func (.func f) a b)) => some (f, a.toList.map (fun v => .d (.v v)) ++ args ++ b.toList.map (fun v => .d (.v v)))
  | .d (.clo (.func f) a b) => some (f, a.map .d ++ args ++ b.map .d)
  | .clo (.func f) a b => some (f, a ++ args ++ b)
  | _ => none

def invTarget (P : Program) (x : AV) (name : String) (args : List AV) : Option (Nat × List AV) :=
  match x with
  | .d (.iface t y) => (mth P t name).map fun f => (f, .d y :: args)
  | .iface t y => (mth P t name).map fun f => (f, y :: args)
  | _ => none

structure CT where
  f : Nat → List AV → (AV → List AV → Sto → Prop) → (Exit → List AV → Sto → Prop) → List AV → Sto → Prop
  y : Nat → List Nat → Code → Code → List AV → (AV → List AV → Sto → Prop) → (Exit → List AV → Sto → Prop) → List AV → Sto → Prop
  z : Nat → Bool := fun _ => false
instance : CoeFun CT (fun _ => Nat → List AV → (AV → List AV → Sto → Prop) → (Exit → List AV → Sto → Prop) → List AV → Sto → Prop) := ⟨CT.f⟩
def CT.okf (P : Program) (C : CT) : Prop := ∀ f args K Q e s, C f args K Q e s → pcall P f args K Q e s
def CT.noY (C : CT) : Prop := ∀ g ps as bd args K Q e s, ¬ C.y g ps as bd args K Q e s
def noYld : Nat → List Nat → Code → Code → List AV → (AV → List AV → Sto → Prop) → (Exit → List AV → Sto → Prop) → List AV → Sto → Prop := fun _ _ _ _ _ _ _ _ _ => False
def CT.cut (C : CT) : CT := { f := C.f, y := noYld, z := C.z }
def pcallo (C : CT) (t : Option (Nat × List AV)) (K : AV → List AV → Sto → Prop) (Q : Exit → List AV → Sto → Prop) (e : List AV) (s : Sto) : Prop :=
  match t with | some (f, args) => C f args K Q e s | none => False
def pcallv (P : Program) (C : CT) (x : AV) (args : List AV) (K : AV → List AV → Sto → Prop) (Q : Exit → List AV → Sto → Prop) (e : List AV) (s : Sto) : Prop :=
  match x with | .yld g ps as bd n => n = P.funcs.size ∧ C.y g ps as bd args K Q e s | x => pcallo C (target P x args) K Q e s
def AV.isYld : AV → Bool | .yld _ _ _ _ _ => true | _ => false
theorem pcallv_cut {P : Program} {C : CT} {x : AV} {args : List AV} {K : AV → List AV → Sto → Prop} {Q : Exit → List AV → Sto → Prop} {e : List AV} {s : Sto} (hx : x.isYld = false) (h : pcallv P C x args K Q e s) : pcallv P C.cut x args K Q e s := by
  cases x <;> first | exact h | cases hx

def itX (o : Option (List AV)) (s : Sto) (K : Nat → Nat → List Nat → List AV → Prop) : Prop :=
  ∃ g n seen c, o = some (itc g n seen) ∧ s.get g = some c ∧ (g < 3000000000 ∧ pairsOk c) ∧ c.length = n ∧ K g n seen c
def itY (o : Option (List AV)) (s : Sto) (K : Nat → Nat → List Nat → List AV → Prop) : Prop :=
  ∃ g n seen c, o = some (itc g n seen) ∧ s.get g = some c ∧ (3000000000 ≤ g ∧ boxesOk (g + 1000000000) c) ∧ c.length = n ∧ K g n seen c
def lookSB (gb : Nat) (c : List AV) (kv : Value) (R : Option Nat → Prop) : Prop := (∀ j kd cs, c[j]? = some (bxE gb j kd cs) → kd.val? = some kv → R (some j)) ∧ ((∀ i kd cs, c[i]? = some (bxE gb i kd cs) → kd.val? ≠ some kv) → R none)
def allD : List AV → Option (List D)
  | [] => some []
  | x :: xs => match x, allD xs with | .d y, some ys => some (y :: ys) | _, _ => none
theorem allD_eq : ∀ {xs : List AV} {ds : List D}, allD xs = some ds → xs = ds.map .d
  | [], ds, h => by simp [allD] at h; subst h; rfl
  | x :: xs, ds, h => by
    unfold allD at h
    split at h
    · rename_i y ys hy; cases h; rw [allD_eq hy]; rfl
    · cases h
def mtag (P : Program) (et tb d : Nat) : Nat := (if nilTy P et = 2 then 3000000000 else 2000000000) + tb + d
def rngM (k : Nat) (d : Nat) (o : Option (List AV)) (g : Nat) (K : List AV → Sto → Prop) (e : List AV) (s : Sto) : Prop := ∃ c, o = some c ∧ (k < 3000000000 ∧ g < 5000000000 ∧ (g < 3000000000 → pairsOk c)) ∧ K (e.set d (.it k)) (s.ins k (itc g c.length []))
def nxtM (h : Nat) (d : Option Nat) (K : List AV → Sto → Prop) (e : List AV) (s : Sto) : Prop :=
  (itX (s.get h) s fun g n seen c => (h < 3000000000 ∧ AV.mencs h e = false ∧ s.mencs h = false) ∧ ((∀ i, i < n → i ∈ seen) → K (eset e d (.tup [.b false])) s) ∧
    ∀ i kd v, i < n → i ∉ seen → c[i]? = some (.d (.agg [kd, v])) → K (eset e d (.tup [.b true, .d kd, .d v])) (s.upd h (itc g n (seen ++ [i])))) ∨
  (itY (s.get h) s fun g n seen c => (h < 3000000000 ∧ AV.mencs h e = false ∧ s.mencs h = false) ∧ ((∀ i, i < n → i ∈ seen) → K (eset e d (.tup [.b false])) s) ∧
    ∀ i kd cs, i < n → i ∉ seen → c[i]? = some (bxE (g + 1000000000) i kd cs) → K (eset e d (.tup [.b true, .d kd, .bx (g + 1000000000) i 0])) (s.upd h (itc g n (seen ++ [i]))))
def entM (h : Nat) (d : Option Nat) (K : List AV → Sto → Prop) (e : List AV) (s : Sto) : Prop :=
  (itX (s.get h) s fun _ _ seen c => ∃ sn i kd v, seen = sn ++ [i] ∧ c[i]? = some (.d (.agg [kd, v])) ∧ K (eset e d (.tup [.d kd, .d v])) s) ∨
  (itY (s.get h) s fun g _ seen c => ∃ sn i kd cs, seen = sn ++ [i] ∧ c[i]? = some (bxE (g + 1000000000) i kd cs) ∧ K (eset e d (.tup [.d kd, .bx (g + 1000000000) i 0])) s)
def pop (P : Program) (C : CT) (tb : Nat) (o : Oper) (K : List AV → Sto → Prop) (Q : Exit → List AV → Sto → Prop) (e : List AV) (s : Sto) : Prop :=
  match o.op with
  | .call ⟨.value f, args, _⟩ => pcallv P C (aval e f) (args.toList.map (aval e)) (fun r e s => K (eset e o.dst r) s) Q e s
  | .call ⟨.invoke x m, args, _⟩ => pcallo C (invTarget P (aval e x) m (args.toList.map (aval e))) (fun r e s => K (eset e o.dst r) s) Q e s
  | .call ⟨.builtin .append, args, ts⟩ => (match args.toList, ts.toList, rowTy P (ts.getD 0 0), o.dst with
    | [x, y], [t, t'], some (el, sz, by_), some d => if C.z d = true then (match aval e x with
      | .own g el' sz' rows => (t = t' ∧ g ≠ 0 ∧ s.get g = none ∧ el' = el ∧ sz' = sz ∧ (aval e y).isSl sz ∧ (rows.length + (aval e y).rows.length) * by_ ≤ 140737488355328 ∧ rows.length + (aval e y).rows.length ≤ 4611686018427387904) ∧
        K ((e.map (AV.frz g el sz)).set d (.d (.sl sz (rows ++ (aval e y).rows)))) (s.frz g el sz)
      | _ => False) else
      t = t' ∧ (aval e x).isApp el sz ∧ (aval e y).isSl sz ∧ ((aval e x).rows.length + (aval e y).rows.length) * by_ ≤ 140737488355328 ∧ (aval e x).rows.length + (aval e y).rows.length ≤ 4611686018427387904 ∧
      K ((e.map (AV.kill (tagOf (tb + d + 1) (aval e x)))).set d (.own (tagOf (tb + d + 1) (aval e x)) el sz ((aval e x).rows ++ (aval e y).rows))) (s.kill (tagOf (tb + d + 1) (aval e x)))
    | _, _, _, _ => False)
  | .call ⟨.builtin .copy, args, ts⟩ => (match args.toList, ts.toList, rowTy P (ts.getD 0 0) with
    | [x, y], [_, _], some (el, sz, _) => (match aval e x with
      | .own g el' sz' rows => (g ≠ 0 ∧ s.get g = none ∧ el' = el ∧ sz' = sz) ∧ (aval e y).isSl sz ∧ (aval e y).rows.length ≤ rows.length ∧ K (eset (e.map (AV.cpy g sz (aval e y).rows)) o.dst (.i (aval e y).rows.length)) (s.cpy g sz (aval e y).rows)
      | _ => False)
    | _, _, _ => False)
  | .box t x => (match (aval e x).cells?, o.dst with
    | some cs, some d => tb + d + 1 < 1000000000 ∧ AV.mens (tb + d + 1) cs = false ∧ K ((e.map (AV.kill (tb + d + 1))).set d (.ref (tb + d + 1) 0)) ((s.kill (tb + d + 1)).ins (tb + d + 1) cs)
    | _, _ => False)
  | .alloc t => (match zcells P t, o.dst with
    | some cs, some d => tb + d + 1 < 1000000000 ∧ K ((e.map (AV.kill (tb + d + 1))).set d (.ref (tb + d + 1) 0)) ((s.kill (tb + d + 1)).ins (tb + d + 1) (cs.map .d))
    | _, _ => False)
  | .buildSlice t n parts => (match rowTy P t, o.dst with
    | some (el, sz, _), some d => (match zcells P el with
      | some zc => if C.z d = true then (okFz s (ownsP (aval e) parts.toList) ∧ zc.all D.one = true ∧ n * sz ≤ 16777216 ∧ bsS (datA (aval e)) sz n parts.toList) ∧
          K (((frzEs (ownsP (aval e) parts.toList) e).map (AV.kill (tb + d + 1))).set d (.own (tb + d + 1) el sz (bsV (datA (aval e)) parts.toList (List.replicate n zc)))) ((frzSs (ownsP (aval e) parts.toList) s).kill (tb + d + 1))
        else zc.all D.one = true ∧ n * sz ≤ 16777216 ∧ bsS (aval e) sz n parts.toList ∧
        K ((e.map (AV.kill (tb + d + 1))).set d (.own (tb + d + 1) el sz (bsV (aval e) parts.toList (List.replicate n zc)))) (s.kill (tb + d + 1))
      | none => False)
    | _, _ => False)
  | .makeSlice t x y => (match rowTy P t, o.dst with
    | some (el, sz, by_), some d => (match zcells P el with
      | some zc => zc.all D.one = true ∧ (aval e x).isInt ∧ (aval e y).isInt ∧ ((aval e y).int = (aval e x).int ∨ (aval e x).int ≤ (aval e y).int) ∧ 0 ≤ (aval e x).int ∧ (aval e y).int * by_ ≤ 140737488355328 ∧ (aval e y).int ≤ 4611686018427387904 ∧
        K ((e.map (AV.kill (tb + d + 1))).set d (.own (tb + d + 1) el sz (List.replicate (aval e x).int.toNat zc))) (s.kill (tb + d + 1))
      | none => False)
    | _, _ => False)
  | .store t x y => (match aval e x, lt P t with
    | .ref g off, some (_, n) => (match s.get g, (aval e y).cells? with
      | some cells, some vs => g ≠ 0 ∧ okSz P t = true ∧ vs.length = n ∧ off + n ≤ cells.length ∧ vs.all AV.one = true ∧ AV.mencs g e = false ∧ s.mencs g = false ∧ o.dst = none ∧ K e (s.upd g (setR cells off vs))
      | _, _ => False)
    | .bx gb i off, some (_, n) => (match s.get (gb - 1000000000), (aval e y).dcells with
      | some c, some vs => (match bxAt c gb i with
        | some z => 4000000000 ≤ gb ∧ okSz P t = true ∧ vs.length = n ∧ off + n ≤ z.2.length ∧ vs.all D.one = true ∧ AV.mencs (gb - 1000000000) e = false ∧ s.mencs (gb - 1000000000) = false ∧ o.dst = none ∧ K e (s.upd (gb - 1000000000) (c.set i (bxE gb i z.1 (setR z.2 off vs))))
        | none => False)
      | _, _ => False)
    | .eref g _ sz _ i off, some (_, n) => (match (aval e y).dcells with
      | some vs => g ≠ 0 ∧ s.get g = none ∧ okSz P t = true ∧ vs.length = n ∧ off + n ≤ sz ∧ vs.all D.one = true ∧ o.dst = none ∧ K (e.map (AV.upr g sz i off vs)) (s.upr g sz i off vs)
      | none => False)
    | _, _ => False)
  | .defer ⟨.value f, args, _⟩ => (match aval e f, s.get 0 with
    | .clo fn x y, some c => c = [] ∧ args.size = 0 ∧ o.dst = none ∧ K e (s.upd 0 (.clo fn x y :: c))
    | _, _ => False)
  | .panic x => (match aval e x with
    | .d (.iface t y) => (match y.val? with | some v => Q (.panic [{ v := .iface t v, recovered := false }]) e s | none => False)
    | _ => False)
  | .makeMap t none => (match o.dst, mapTy P t with
    | some d, some (_, et) => K ((e.map (AV.kill (mtag P et tb d))).set d (.mp (mtag P et tb d))) ((s.kill (mtag P et tb d)).ins (mtag P et tb d) [])
    | _, _ => False)
  | .lookup t m x ok => (match aval e m, aval e x, mapTy P t with
    | .mp g, .d kd, some (kt, et) => (match s.get g, kd.val? with
      | some c, some kv => (Keyed P kt ∧ zeroed P et = true ∧ (keyOf P kt kv).isSome = true) ∧ if g < 3000000000 then mapOk P kt c ∧ lookS c kv (fun r => K (eset e o.dst (lookV (zeroA P et) ok r)) s)
        else bmapOk P kt (g + 1000000000) c ∧ lookSB (g + 1000000000) c kv (fun r => K (eset e o.dst (lookBV (g + 1000000000) (zeroA P et) ok r)) s)
      | _, _ => False)
    | _, _, _ => False)
  | .mapUpdate t m x y => (match aval e m, aval e x, aval e y, mapTy P t with
    | .mp g, .d kd, .d vd, some (kt, _) => (match s.get g, kd.val? with
      | some c, some kv => (o.dst = none ∧ Keyed P kt ∧ (keyOf P kt kv).isSome = true ∧ AV.mencs g e = false ∧ s.mencs g = false) ∧ g < 3000000000 ∧ mapOk P kt c ∧ updS c kd kv vd (fun c' => K e (s.upd g c'))
      | _, _ => False)
    | .mp g, .d kd, .ref k off, some (kt, _) => (match s.get g, kd.val?, (s.get k).bind allD with
      | some c, some kv, some ds => (o.dst = none ∧ Keyed P kt ∧ (keyOf P kt kv).isSome = true ∧ AV.mencs g e = false ∧ s.mencs g = false) ∧ (3000000000 ≤ g ∧ k ≠ 0 ∧ off = 0) ∧ (bmapOk P kt (g + 1000000000) c ∧ ∀ i kd' cs, c[i]? = some (bxE (g + 1000000000) i kd' cs) → kd'.val? ≠ some kv) ∧
          K ((e.map (AV.kill k)).map (AV.kill (g + 1000000000))) (((s.kill k).kill (g + 1000000000)).upd g (c ++ [bxE (g + 1000000000) c.length kd ds]))
      | _, _, _ => False)
    | _, _, _, _ => False)
  | .insert t m x y => (match aval e m, aval e x, aval e y, mapTy P t with
    | .mp g, .d kd, .d vd, some (kt, _) => (match s.get g, kd.val? with
      | some c, some kv => (o.dst = none ∧ Keyed P kt ∧ (keyOf P kt kv).isSome = true ∧ AV.mencs g e = false ∧ s.mencs g = false) ∧ g < 3000000000 ∧ mapOk P kt c ∧ updS c kd kv vd (fun c' => K e (s.upd g c'))
      | _, _ => False)
    | _, _, _, _ => False)
  | .range t m => (match o.dst, mapTy P t with
    | some d, some _ => (match aval (e.map (AV.kill (2000000000 + tb + d))) m with
      | .mp g => rngM (2000000000 + tb + d) d ((s.kill (2000000000 + tb + d)).get g) g K (e.map (AV.kill (2000000000 + tb + d))) (s.kill (2000000000 + tb + d))
      | _ => False)
    | _, _ => False)
  | .next it false => (match aval e it with
    | .it h => nxtM h o.dst K e s
    | _ => False)
  | .entry it => (match aval e it with
    | .it h => entM h o.dst K e s
    | _ => False)
  | .binOp op t x y t' => if isNilSl y = true then nlP P op t (aval e x) (fun b => K (eset e o.dst (.b b)) s) else k0 (.binOp op t x y t') = true ∧ ps P s [] (.binOp op t x y t') (aval e) ∧ K (eset e o.dst (pv P s (.binOp op t x y t') (aval e))) s
  | op => k0 op = true ∧ ps P s [] op (aval e) ∧ K (eset e o.dst (pv P s op (aval e))) s

theorem pop_cut {P : Program} {C : CT} {tb : Nat} {o : Oper} {K : List AV → Sto → Prop} {Q : Exit → List AV → Sto → Prop} {e : List AV} {s : Sto} (hx : ∀ f args ts, o.op = .call ⟨.value f, args, ts⟩ → (aval e f).isYld = false) (h : pop P C tb o K Q e s) : pop P C.cut tb o K Q e s := by
  obtain ⟨dst, op, type, pos, after, guard⟩ := o
  cases op with
  | call c =>
    obtain ⟨cl, args, ts⟩ := c
    cases cl with
    | value f => exact pcallv_cut (hx f args ts rfl) h
    | invoke x m => exact h
    | builtin b => cases b <;> exact h
  | defer c => obtain ⟨cl, args, ts⟩ := c; cases cl <;> exact h
  | makeMap t r => cases r <;> exact h
  | next it b => cases b <;> exact h
  | _ => exact h
theorem CT.cut_noY (C : CT) : C.cut.noY := fun _ _ _ _ _ _ _ _ _ h => h
theorem Rel.put {W0 : World} {L0 L : Lay} {e : List AV} {s : Sto} {w : World} {a : Act} (hr : Rel W0 L0 L e s w a) (d : Option Nat) {x : AV} {u : Value} (h : ARep L w x u) : Rel W0 L0 L (eset e d x) s w (a.put d u) := hr.set d h

theorem Rel.put_none {W0 : World} {L0 L : Lay} {e : List AV} {s : Sto} {w : World} {a : Act} (hr : Rel W0 L0 L e s w a) {d : Option Nat} (h : d = none) (u : Value) : Rel W0 L0 L e s w (a.put d u) := by subst h; exact hr

section
variable {P : Program} {C : CT} {tb : Nat} {W0 : World} {L0 L : Lay} {e : List AV} {s : Sto} {w : World} {a : Act} {K : List AV → Sto → Prop} {Q : Exit → List AV → Sto → Prop}

def After (W0 : World) (L0 : Lay) (K : List AV → Sto → Prop) : Act → World → Prop := fun a w => ∃ L e s, Rel W0 L0 L e s w a ∧ K e s

theorem wp_of_mk {o : Oper} {e' : List AV} {s' : Sto} {x : AV} (h : Mk P W0 L0 a w o e' s' x) (hK : K (eset e' o.dst x) s') : o.wp P a w (After W0 L0 K) (lift W0 L0 Q) := by
  obtain ⟨v, w', L', h1, h2, h3⟩ := h
  unfold Oper.wp; rw [h1]
  exact ⟨L', _, _, h2.put o.dst h3, hK⟩
theorem wp_of_mks {o : Oper} {e' : List AV} {s' : Sto} (h : Mks P W0 L0 a w o e' s') (hd : o.dst = none) (hK : K e' s') : o.wp P a w (After W0 L0 K) (lift W0 L0 Q) := by
  obtain ⟨w', L', h1, h2⟩ := h
  unfold Oper.wp; rw [h1]
  exact ⟨L', _, _, h2.put_none hd _, hK⟩

theorem wp_of_call {o : Oper} {f : Nat} {args : List AV} {vs : Array Value} (hr : Rel W0 L0 L e s w a) (hrun : callable P f = true → (execOp a.eval o).run P w = .ok (.enter f vs) w) (ha : AReps L w args vs.toList)
    (h : pcall P f args (fun r e s => K (eset e o.dst r) s) Q e s) : o.wp P a w (After W0 L0 K) (lift W0 L0 Q) := by
  obtain ⟨hc, h⟩ := h
  unfold Oper.wp; rw [hrun hc]
  refine (h W0 L0 L w a vs hr ha).mono fun en w' hen => ?_
  cases en with
  | returned v =>
    obtain ⟨L', e', s', r, h1, h2, h3⟩ := hen
    exact ⟨L', _, _, h1.put o.dst h2, h3⟩
  | panicked c =>
    obtain ⟨L', e', s', h1, h2⟩ := hen
    exact ⟨L', e', s', h1, h2⟩
  | outgrown => exact hen.elim

theorem areps_append {xs ys : List AV} {us vs : List Value} : AReps L w xs us → AReps L w ys vs → AReps L w (xs ++ ys) (us ++ vs) := by
  induction xs generalizing us with
  | nil => intro h k; rw [show us = [] from h]; exact k
  | cons x xs ih => intro ⟨u, ut, e, h1, h2⟩ k; rw [e]; exact ⟨u, _, rfl, h1, ih h2 k⟩
theorem areps_vals : ∀ l : List Value, AReps L w (l.map (fun v => .d (.v v))) l
  | [] => rfl
  | x :: l => ⟨x, l, rfl, rfl, areps_vals l⟩

theorem pop_sound (hC : C.okf P) (hY : C.noY) (o : Oper) (h : pop P C tb o K Q e s) (hr : Rel W0 L0 L e s w a) : o.wp P a w (After W0 L0 K) (lift W0 L0 Q) := by
  have hA := fun x => aval_rep hr.slots x
  have hk0 : k0 o.op = true ∧ ps P s [] o.op (aval e) ∧ K (eset e o.dst (pv P s o.op (aval e))) s → o.wp P a w (After W0 L0 K) (lift W0 L0 Q) := fun ⟨_, h1, h2⟩ => by
    obtain ⟨v, g1, g2⟩ := pv_sound (ρ := a.eval) (L := L) (w := w) (X := []) hA hr.objs hr.lk2 o h1
    unfold Oper.wp; rw [g2 w (fun _ => Keep.refl _ _ _)]
    exact ⟨L, _, _, hr.put o.dst g1, h2⟩
  have hargs : ∀ args : Array Operand, AReps L w (args.toList.map (aval e)) (args.map a.eval).toList := fun args => by rw [Array.toList_map]; exact areps_map hA _
  obtain ⟨dst, op, type, pos, after, guard⟩ := o
  unfold pop at h
  simp only at h
  generalize hd0 : dst = dst0 at h
  split at h
  · rename_i f args ts
    subst hd0
    have h : pcallo C (target P (aval e f) (args.toList.map (aval e))) (fun r e s => K (eset e dst r) s) Q e s := by
      unfold pcallv at h
      split at h
      · exact absurd h.2 (hY _ _ _ _ _ _ _ _ _)
      · exact h
    unfold pcallo at h
    split at h
    case h_2 => exact h.elim
    rename_i g as ht
    have hf := hA f
    unfold target at ht
    split at ht
    · rename_i g' x y hx
      simp at ht; obtain ⟨rfl, rfl⟩ := ht
      rw [hx] at hf
      have hf : a.eval f = .func (.func g') x y := hf
      refine wp_of_call (vs := x ++ args.map a.eval ++ y) hr (fun hc => ?_) ?_ (hC _ _ _ _ _ _ h)
      · simp [execOp, resolve, hf, Deferred.ofValue, invoke, callable_run hc]
      · simp only [Array.toList_append]
        simpa using areps_append (areps_append (areps_vals x.toList) (hargs args)) (areps_vals y.toList)
    · rename_i g' x y hx
      simp at ht; obtain ⟨rfl, rfl⟩ := ht
      rw [hx] at hf
      obtain ⟨xs, ys, hf, k1, k2⟩ := hf
      refine wp_of_call (vs := xs ++ args.map a.eval ++ ys) hr (fun hc => ?_) ?_ (hC _ _ _ _ _ _ h)
      · simp [execOp, resolve, hf, Deferred.ofValue, invoke, callable_run hc]
      · simp only [Array.toList_append]
        simpa using areps_append (areps_append (areps_d k1) (hargs args)) (areps_d k2)
    · rename_i g' x y hx
      simp at ht; obtain ⟨rfl, rfl⟩ := ht
      rw [hx] at hf
      obtain ⟨xs, ys, hf, k1, k2⟩ := hf
      refine wp_of_call (vs := xs ++ args.map a.eval ++ ys) hr (fun hc => ?_) ?_ (hC _ _ _ _ _ _ h)
      · simp [execOp, resolve, hf, Deferred.ofValue, invoke, callable_run hc]
      · simp only [Array.toList_append]
        simpa using areps_append (areps_append k1 (hargs args)) k2
    · cases ht
  · rename_i x m args ts
    subst hd0
    unfold pcallo at h
    split at h
    case h_2 => exact h.elim
    rename_i g as ht
    have hf := hA x
    unfold invTarget at ht
    split at ht
    · rename_i t y hx
      simp only [Option.map_eq_some_iff] at ht
      obtain ⟨f, hm, ht⟩ := ht
      simp at ht; obtain ⟨rfl, rfl⟩ := ht
      rw [hx] at hf
      obtain ⟨u, hf, k1⟩ := hf
      refine wp_of_call (vs := #[u] ++ args.map a.eval) hr (fun hc => ?_) ?_ (hC _ _ _ _ _ _ h)
      · simp only [execOp, resolve, Sem.run_bind, Sem.run_pure, Result.andThen_ok, hf, inv_run hm hc]
      · simp only [Array.toList_append]
        exact ⟨u, _, rfl, k1, hargs args⟩
    · rename_i t y hx
      simp only [Option.map_eq_some_iff] at ht
      obtain ⟨f, hm, ht⟩ := ht
      simp at ht; obtain ⟨rfl, rfl⟩ := ht
      rw [hx] at hf
      obtain ⟨u, hf, k1⟩ := hf
      refine wp_of_call (vs := #[u] ++ args.map a.eval) hr (fun hc => ?_) ?_ (hC _ _ _ _ _ _ h)
      · simp only [execOp, resolve, Sem.run_bind, Sem.run_pure, Result.andThen_ok, hf, inv_run hm hc]
      · simp only [Array.toList_append]
        exact ⟨u, _, rfl, k1, hargs args⟩
    · cases ht
  · rename_i args ts
    split at h
    · rename_i x y t t' el sz by_ d e1 e2 hT
      split at h
      · split at h
        · rename_i g el' sz' rows hx
          obtain ⟨⟨rfl, h1, h2, rfl, rfl, h3, h4, h5⟩, h6⟩ := h
          obtain rfl : args = #[x, y] := Array.toList_inj.1 e1
          obtain rfl : ts = #[t, t] := Array.toList_inj.1 e2
          subst hd0
          exact wp_of_mk (mk_append_frz hr x y (by simpa using hT) hx h1 h2 h3 h4 (by simp only [maxLen]; omega)) h6
        · exact h.elim
      obtain ⟨rfl, h1, h2, h3, h4, h5⟩ := h
      obtain rfl : args = #[x, y] := Array.toList_inj.1 e1
      obtain rfl : ts = #[t, t] := Array.toList_inj.1 e2
      subst hd0
      exact wp_of_mk (mk_append hr (k := tb + d + 1) (by omega) x y (by simpa using hT) h1 h2 h3 (by simp only [maxLen]; omega)) h5
    · exact h.elim
  · rename_i args ts
    split at h
    · rename_i x y t t' el sz by_ e1 e2 hT
      split at h
      · rename_i g el' sz' rows hx
        obtain ⟨⟨h1, h2, rfl, rfl⟩, h3, h4, h5⟩ := h
        obtain rfl : args = #[x, y] := Array.toList_inj.1 e1
        obtain rfl : ts = #[t, t'] := Array.toList_inj.1 e2
        subst hd0
        exact wp_of_mk (mk_copy hr t t' g el' sz' by_ x y (by simpa using hT) hx h1 h2 h3 h4) h5
      · exact h.elim
    · exact h.elim
  · rename_i t x
    split at h
    · rename_i cs d hc
      subst hd0
      exact wp_of_mk (mk_box hr (k := tb + d + 1) (by omega) h.1 t x hc h.2.1) h.2.2
    · exact h.elim
  · rename_i t
    split at h
    · rename_i cs d hc
      subst hd0
      exact wp_of_mk (mk_alloc hr (k := tb + d + 1) (by omega) h.1 t hc) h.2
    · exact h.elim
  · rename_i t n parts
    split at h
    · rename_i el sz by_ d hT
      subst hd0
      split at h
      · rename_i zc hz
        split at h
        · obtain ⟨⟨q1, q2, q3, q4⟩, q5⟩ := h
          obtain ⟨L', k1, k2, k3, k4⟩ := frz_rels _ q1 hr
          refine wp_of_mk (mk_buildSliceA k1 (datP (aval e) parts.toList) (fun x => ?_) (k := tb + d + 1) (by omega) t n parts hT hz q2 q3 (bsS_datP _ _ _ _ q4)) (by rw [bsV_datP]; exact q5)
          unfold datP
          split
          · rename_i hx
            unfold datA
            split
            · rename_i y hy
              exact AV.datF_rep k3 _ _ y (hA x) hy fun p hp => k4 p (ownsP_mem hx p hp)
            · trivial
          · trivial
        · exact wp_of_mk (mk_buildSlice hr (k := tb + d + 1) (by omega) t n parts hT hz h.1 h.2.1 h.2.2.1) h.2.2.2
      · exact h.elim
    · exact h.elim
  · rename_i t x y
    split at h
    · rename_i el sz by_ d hT
      subst hd0
      split at h
      · rename_i zc hz
        obtain ⟨h1, h2, h3, h4, h5, h6, h7, h8⟩ := h
        exact wp_of_mk (mk_make hr (k := tb + d + 1) (by omega) t x y hT hz h1 h2 h3 h4 h5 h6 h7) h8
      · exact h.elim
    · exact h.elim
  · rename_i t x y
    split at h
    · rename_i g off ag n hx hl
      split at h
      · rename_i cells vs hg hv
        obtain ⟨h1, h2, h3, h4, h5, h6, h7, h8, h9⟩ := h
        subst hd0
        exact wp_of_mks (mk_store_ref hr t g off n ag x y hx h1 hg hl h2 hv h3 h4 h5 h6 h7) h8 h9
      · exact h.elim
    · rename_i gb i off ag n hx hl
      split at h
      · rename_i c vs hc hv
        split at h
        · rename_i z hz
          obtain ⟨h1, h2, h3, h4, h5, h6, h7, h8, h9⟩ := h
          subst hd0
          exact wp_of_mks (mk_storeB hr t _ _ off n ag x y hx h1 hc (bxAt_spec hz) hl h2 hv h3 h4 h5 h6 h7) h8 h9
        · exact h.elim
      · exact h.elim
    · rename_i g el sz rows i off ag n hx hl
      split at h
      · rename_i vs hv
        obtain ⟨h1, h2, h3, h4, h5, h6, h7, h8⟩ := h
        subst hd0
        exact wp_of_mks (mk_store_eref hr t g el sz i off n ag x y hx h1 h2 hl h3 hv h4 h5 h6) h7 h8
      · exact h.elim
    · exact h.elim
  · rename_i f args ts
    split at h
    · rename_i fn x y c hx hc
      obtain ⟨_, h1, h2, h3⟩ := h
      subst h2; subst hd0
      have hf := hA f
      rw [hx] at hf
      obtain ⟨us, vs, hf, k1, k2⟩ := hf
      obtain rfl : args = #[] := Array.eq_empty_of_size_eq_zero h1
      unfold Oper.wp
      simp only [execOp, resolve, hf, Deferred.ofValue, Sem.run_bind, Sem.run_pure, Result.andThen_ok, Oper.upon]
      obtain ⟨ws, hw1, hw2⟩ := hr.hid
      refine ⟨_, _, _, hr.hide (a' := { a with defers := _ :: a.defers }) (s' := s.upd 0 (.clo fn x y :: c)) (h := .func fn us vs :: L.hid) (c := .clo fn x y :: c) (by simp [hc]) ⟨_, _, rfl, ⟨us, vs, rfl, k1, k2⟩, (hr.objs 0 c hc).1 rfl⟩ ⟨.func fn us vs :: ws, by rw [hw1]; rfl, ?_⟩ ?_ ?_ hr.kept hr.rdk hr.slots (fun _ => rfl) hr.rd (kp := []) (fun g => ?_), h3⟩
      · have hst : ∀ d : Deferred, isMark d = false → strip (d :: a.defers) = d :: strip a.defers := fun d hd => by simp [strip, hd]
        show strip (_ :: a.defers) = _
        rw [hst _ rfl, hw2]; simp [undv]
      · have hmk : ∀ d : Deferred, markOf d = none → marks (d :: a.defers) = marks a.defers := fun d hd => by simp [marks, hd]
        show (marks (_ :: a.defers)).Nodup ∧ ∀ r ∈ marks (_ :: a.defers), _
        rw [hmk _ rfl]; exact hr.mks
      · intro r hr'; exact hr.mkb r (by simpa [marks, markOf] using hr')
      · rw [Sto.get_upd]
        by_cases h : 0 = g
        · subst h; simp [hc]
        · simp [h]
    · exact h.elim
  · rename_i x
    split at h
    · rename_i t y hx
      split at h
      · rename_i v hv
        have hf := hA x
        rw [hx] at hf
        obtain ⟨u, hf, k1⟩ := hf
        have := D.val_rep hv k1
        subst this
        unfold Oper.wp
        simp only [execOp, Instr.panic, hf, Sem.run_bind, run_goPanic, Result.andThen_halt, Oper.upon]
        exact ⟨L, e, s, hr, h⟩
      · exact h.elim
    · exact h.elim
  · rename_i t
    split at h
    · subst hd0
      exact wp_of_mk (mk_makeMap hr (by unfold mtag; split <;> omega) t) h
    · exact h.elim
  · rename_i t m x ok
    split at h
    · rename_i g kd kt et hm hx ht
      split at h
      · rename_i c kv hc hkv
        obtain ⟨⟨h1, h2, h3⟩, h⟩ := h
        subst hd0
        split at h
        · rename_i hg3
          obtain ⟨h4, h5⟩ := h
          obtain ⟨r, hr1, hr2⟩ := mk_lookup hr m x t ok hm hc hx hkv hg3 ht h1 h4 h3 h2
          refine wp_of_mk hr2 ?_
          rcases hr1 with ⟨v, rfl, hv⟩ | ⟨rfl, hv⟩
          · exact h5.1 v hv
          · exact h5.2 hv
        · rename_i hg3
          obtain ⟨h4, h5⟩ := h
          obtain ⟨r, hr1, hr2⟩ := mk_lookupB hr m x t ok hm (by omega) hc hx hkv ht h1 h4 h3 h2
          refine wp_of_mk hr2 ?_
          rcases hr1 with ⟨j, kd', cs, rfl, hv, hv2⟩ | ⟨rfl, hv⟩
          · exact h5.1 j kd' cs hv hv2
          · exact h5.2 hv
      · exact h.elim
    · exact h.elim
  · rename_i t m x y
    split at h
    · rename_i g kd vd kt et hm hx hy ht
      split at h
      · rename_i c kv hc hkv
        obtain ⟨⟨h0, h1, h2, h3, h4⟩, hg3, h5, h6⟩ := h
        subst hd0
        obtain ⟨c', hr1, hr2⟩ := mks_mapUpdate hr m x y t hm hc hx hy hkv hg3 ht h1 h5 h2 h3 h4
        refine wp_of_mks hr2 h0 ?_
        rcases hr1 with ⟨j, kd', v', q1, q2, rfl⟩ | ⟨q1, rfl⟩
        · exact h6.1 j kd' v' q1 q2
        · exact h6.2 q1
      · exact h.elim
    · rename_i g kd k off kt et hm hx hy ht
      split at h
      · rename_i c kv ds hc hkv hds
        obtain ⟨⟨h0, h1, h2, h3, h4⟩, ⟨hg3, hk0, rfl⟩, ⟨h5, h6⟩, h7⟩ := h
        subst hd0
        obtain ⟨c0, hc0, hds⟩ := Option.bind_eq_some_iff.1 hds
        have := allD_eq hds
        subst this
        exact wp_of_mks (mks_boxPut hr m x y t hm hg3 hc hx hy hk0 hc0 hkv ht h1 h5 h2 h6 h3 h4) h0 h7
      · exact h.elim
    · exact h.elim
  · rename_i t m x y
    split at h
    · rename_i g kd vd kt et hm hx hy ht
      split at h
      · rename_i c kv hc hkv
        obtain ⟨⟨h0, h1, h2, h3, h4⟩, hg3, h5, h6⟩ := h
        subst hd0
        obtain ⟨c', hr1, w', L', q3, q4⟩ := mks_mapUpdate (dst := dst) (type := type) (pos := pos) (after := after) (guard := guard) hr m x y t hm hc hx hy hkv hg3 ht h1 h5 h2 h3 h4
        refine wp_of_mks (e' := e) (s' := s.upd g c') ⟨w', L', q3, q4⟩ h0 ?_
        rcases hr1 with ⟨j, kd', v', q1, q2, rfl⟩ | ⟨q1, rfl⟩
        · exact h6.1 j kd' v' q1 q2
        · exact h6.2 q1
      · exact h.elim
    · exact h.elim
  · rename_i t m
    split at h
    · rename_i d z ht
      split at h
      · rename_i g hm
        obtain ⟨c, hc, ⟨hk3, hg5, hp⟩, h⟩ := h
        rcases Nat.lt_or_ge g 3000000000 with hg3 | hg3
        · exact wp_of_mk (mk_range hr (by omega) hk3 t m hg3 hm hc ht (hp hg3)) h
        · exact wp_of_mk (mk_rangeB hr (by omega) hk3 t m hg3 hg5 hm hc ht) h
      · exact h.elim
    · exact h.elim
  · rename_i it
    split at h
    · rename_i g hi
      subst hd0
      rcases h with ⟨b, n, seen, c, hh, hc, ⟨hb3, hp⟩, hn, ⟨h0, h1, h2⟩, h3, h4⟩ | ⟨b, n, seen, c, hh, hc, ⟨hb3, hp⟩, hn, ⟨h0, h1, h2⟩, h3, h4⟩
      · rcases mk_next hr it hi hh hc h0 hb3 hp hn h1 h2 with ⟨q1, q2⟩ | ⟨i, kd, v, ⟨q1, q2, q3⟩, q4⟩
        · exact wp_of_mk q2 (h3 q1)
        · exact wp_of_mk q4 (h4 i kd v q1 q2 q3)
      · rcases mk_nextB hr it hi hh hc h0 hb3 hp hn h1 h2 with ⟨q1, q2⟩ | ⟨i, kd, v, ⟨q1, q2, q3⟩, q4⟩
        · exact wp_of_mk q2 (h3 q1)
        · exact wp_of_mk q4 (h4 i kd v q1 q2 q3)
    · exact h.elim
  · rename_i it
    split at h
    · rename_i g hi
      subst hd0
      rcases h with ⟨b, n, seen, c, hh, hc, ⟨hb3, hp⟩, hn, sn, i, kd, v, rfl, q1, q2⟩ | ⟨b, n, seen, c, hh, hc, ⟨hb3, hp⟩, hn, sn, i, kd, v, rfl, q1, q2⟩
      · exact wp_of_mk (mk_entry hr it hi hh hc hb3 hp hn q1) q2
      · exact wp_of_mk (mk_entryB hr it hi hh hc hb3 hn q1) q2
    · exact h.elim
  · rename_i op t x y t'
    subst hd0
    split at h
    · rename_i hn
      obtain rfl := isNilSl_eq hn
      obtain ⟨⟨h1, h2⟩, h3⟩ := h
      obtain ⟨b, hR, v, g1, g2⟩ := yv_nls (dst := dst) (type := type) (pos := pos) (after := after) (guard := guard) (ρ := a.eval) (L := L) (w := w) (X := []) (A := aval e) op t t' x (hA x) rfl h1 h2 h3
      unfold Oper.wp; rw [g2 w (fun _ => Keep.refl _ _ _)]
      exact ⟨L, _, _, hr.put dst g1, hR⟩
    · exact hk0 h
  · subst hd0; exact hk0 h

end
end Go.E

namespace Go.E
open Go Go.RowKit

theorem below_mem {L : Lay} {w w' : World} (h : Below w.heap.size w w') : (L.mem w).le (L.mem w') := look_le fun b hb hlt => ⟨hb, h.block b hlt⟩
theorem OwnRow.grow {g e s : Nat} {L : Lay} {w w' : World} {rows : List (List D)} {u : Value} (h : Below w.heap.size w w') (hr : OwnRow L w g e s rows u) : OwnRow L w' g e s rows u := by
  obtain ⟨xs, h1, h2, h3, h5, h4⟩ := hr
  refine ⟨xs, ⟨h1.1, ?_⟩, h2, h3, h5, DReps.mono (below_mem h) _ _ h4⟩
  rcases h1.2 with hn | ⟨b, cap, cur, e1, e2, e3, rest⟩
  · exact .inl hn
  · exact .inr ⟨b, cap, cur, e1, e2, by rw [h.block b (lt_of_heap e3)]; exact e3, rest⟩
mutual
theorem ARep.grow {L : Lay} {w w' : World} (h : Below w.heap.size w w') : ∀ (x : AV) (u : Value), ARep L w x u → ARep L w' x u
  | .any, _, _ => trivial
  | .d x, u, hr => DRep.mono (below_mem h) x u hr
  | .own _ _ _ _, _, ⟨e, hr⟩ => ⟨e, OwnRow.grow h hr⟩
  | .eref _ _ _ _ _ _, _, ⟨hr, hi, b, n, c, e1, e2⟩ => ⟨OwnRow.grow h hr, hi, b, n, c, e1, e2⟩
  | .ref _ _, _, e => e
  | .tup xs, _, ⟨us, e, k1⟩ => ⟨us, e, AReps.grow h xs _ k1⟩
  | .agg xs, _, ⟨us, e, k1⟩ => ⟨us, e, AReps.grow h xs _ k1⟩
  | .clo _ x y, _, ⟨xs, ys, e, k1, k2⟩ => ⟨xs, ys, e, AReps.grow h x _ k1, AReps.grow h y _ k2⟩
  | .iface _ x, _, ⟨y, e, k1⟩ => ⟨y, e, ARep.grow h x y k1⟩
  | .yld _ _ _ _ _, _, k => k
  | .mp _, _, k => k
  | .it _, _, k => k
  | .bx _ _ _, _, k => k
theorem AReps.grow {L : Lay} {w w' : World} (h : Below w.heap.size w w') : ∀ (xs : List AV) (us : List Value), AReps L w xs us → AReps L w' xs us
  | [], _, hr => hr
  | x :: xs, _, ⟨u, ut, e, k1, k2⟩ => ⟨u, ut, e, ARep.grow h x u k1, AReps.grow h xs ut k2⟩
end
theorem Rel.grow {W0 : World} {L0 L : Lay} {e : List AV} {s : Sto} {w w' : World} {a : Act} (hr : Rel W0 L0 L e s w a) (h : Below w.heap.size w w') : Rel W0 L0 L e s w' a where
  slots := AReps.grow h _ _ hr.slots
  hid := hr.hid
  rd := hr.rd
  rdk := hr.rdk
  lke := hr.lke
  lkb := fun g r hl => ⟨(hr.lkb g r hl).1, (hr.lkb g r hl).2.1, Nat.lt_of_lt_of_le (hr.lkb g r hl).2.2 h.size⟩
  lki := hr.lki
  mkb := hr.mkb
  kept := fun b o hb => ⟨let ⟨o', h1, h3⟩ := (hr.kept b o hb).1; ⟨o', (h.block b (lt_of_heap h1)).trans h1, h3⟩, (hr.kept b o hb).2⟩
  mks := ⟨hr.mks.1, fun r hm => ⟨(h.block r (lt_of_heap (hr.mks.2 r hm).1)).trans (hr.mks.2 r hm).1, (hr.mks.2 r hm).2⟩⟩
  objs := fun g c hc => by
    refine ⟨fun h0 => AReps.grow h _ _ ((hr.objs g c hc).1 h0), fun h0 => ?_⟩
    obtain ⟨vs, e1, e3⟩ := (hr.objs g c hc).2 h0
    exact ⟨vs, e1.congr rfl (fun _ => rfl) (fun b hb _ => ⟨h.block b hb, rfl⟩), AReps.grow h _ _ e3⟩
  old := fun b hb h0 => ⟨(hr.old b hb h0).1, (h.block b (Nat.lt_of_lt_of_le hb hr.size)).trans (hr.old b hb h0).2⟩
  size := Nat.le_trans hr.size h.size
  own_lt := fun b g hb => Nat.lt_of_lt_of_le (hr.own_lt b g hb) h.size
  os := h.os.trans hr.os
  tape := h.tape.trans hr.tape
  output := h.output.trans hr.output

theorem below_drew (w : World) : Below w.heap.size w { w with drawn := w.drawn + 1 } := ⟨rfl, rfl, rfl, Nat.le_refl _, fun _ _ => rfl⟩
end Go.E

namespace Go.E
open Go

abbrev Lay.ro (L : Lay) : Option Nat := L.rd
def FW (r : Option Nat) : Fence := { Fence.wide with round := r }
theorem FW_room {r : Option Nat} (n : Nat) : (FW r).room n := fun _ h => by simp [FW, Fence.wide] at h
theorem callsFW {r : Option Nat} {n : Nat} {P : Program} {f : FuncId} {args : Array Value} {w : World} {R : Ending → World → Prop} : CallsIn (FW r) n P f args w R ↔ Calls P f args w R :=
  ⟨fun h cs => let ⟨e, w', fr, r, s, x⟩ := h.2 cs (FW_room _); ⟨e, w', fr, r, comesIn_wide.1 s, x⟩,
   fun h => ⟨trivial, fun cs _ => let ⟨e, w', fr, r, s, x⟩ := h cs; ⟨e, w', fr, r, comesIn_wide.2 s, x⟩⟩⟩
theorem rowsFW {r : Option Nat} {n : Nat} {P : Program} {row : String} {args : Array Value} {w : World} {R : Value → World → Prop} (h : Rows P row args w R) : RowsIn (FW r) n P row args w R :=
  fun c cs _ => let ⟨v, w', r, s⟩ := h c cs; ⟨v, w', r, stepsIn_wide.2 s⟩
theorem FW_depth {r : Option Nat} {p : Prop} : (FW r).depth.isSome = true → p := fun h => by simp [FW, Fence.wide] at h

def noDef (o : Oper) : Bool := match o.op with | .defer _ => false | _ => true
theorem semFW {r : Option Nat} {ρ : Operand → Value} {o : Oper} (h : r = none ∨ noDef o = true) : o.semAt (FW r).round ρ = execOp ρ o := by
  rcases h with rfl | h
  · rfl
  · exact Oper.semAt_eq _ _ _ fun c hc => by simp [noDef, hc] at h
theorem wpIn_of_wp {r : Option Nat} {P : Program} {o : Oper} {a : Act} {w : World} {K : Act → World → Prop} {Q : Exit → Act → World → Prop} (hd : r = none ∨ noDef o = true) (h : o.wp P a w K Q) : o.wpIn (FW r) 0 P a w K Q := by
  refine ⟨fun _ _ => trivial, ?_⟩
  rw [semFW hd]
  unfold Oper.wp at h
  generalize (execOp a.eval o).run P w = R at h ⊢
  cases R with
  | ok x w' =>
    cases x <;> simp only [Oper.upon, Oper.uponIn] at h ⊢ <;>
      first
        | exact h
        | exact ⟨FW_depth, callsFW.2 h⟩
        | exact ⟨FW_depth, rowsFW h⟩
        | exact h.elim
  | halt x w' => cases x <;> simp only [Oper.upon, Oper.uponIn] at h ⊢ <;> exact h

section
variable {r : Option Nat} {P : Program} {ops : Array Oper} {Q : Exit → Act → World → Prop} {S : World → Prop} {a : Act} {w : World}
theorem wpOpIn_yields {i : Nat} {o : Oper} {v : Value} (hd : r = none ∨ noDef o = true) (hi : ops[i]? = some o) (hy : YieldsIf P ops S o v a) (hS : S w)
    {K : Act → World → Prop} (h : K (a.put o.dst v) w) : wpOpIn (FW r) 0 P ops Q i K a w := by
  unfold wpOpIn
  simp only [hi]
  rcases hy with ⟨hw, hv⟩ | ⟨hw, rfl⟩
  · simp only [hw, if_true]
    exact wpIn_of_wp hd (by unfold Oper.wp; rw [hv w hS]; exact h)
  · simp only [hw, Bool.false_eq_true, if_false]; exact ⟨fun _ _ => trivial, h⟩
theorem wpOpIn_putIf {j : Nat} {oi oj : Oper} {v : Value} (hdj : r = none ∨ noDef oj = true) (hj : ops[j]? = some oj) (hap : oi.apart ops oj = true)
    (hsi : ∀ cs b, oi.op ≠ .select cs b) (hsj : ∀ cs b, oj.op ≠ .select cs b)
    (hQ : ∀ c a w, Q (.panic c) (a.put oi.dst v) w → Q (.panic c) a w) {K : Act → World → Prop}
    (hy : YieldsIf P ops S oi v a) (h : wpOpIn (FW r) 0 P ops Q j K (a.put oi.dst v) w) :
    wpOpIn (FW r) 0 P ops Q j (fun a' w' => YieldsIf P ops S oi v a' ∧ K (a'.put oi.dst v) w') a w := by
  obtain ⟨h1, h2, h3⟩ := Oper.apart_spec hap
  have keep : ∀ (a : Act), YieldsIf P ops S oi v a → ∀ u, YieldsIf P ops S oi v (a.put oj.dst u) := fun a hy u =>
    hy.of_same (execOp_put oi hsi a oj.dst u h3) (wanted_put oi a oj.dst u h3)
  have keepD : ∀ d, YieldsIf P ops S oi v { a with defers := d :: a.defers } := fun d => hy.of_same rfl rfl
  unfold wpOpIn at *
  simp only [hj] at *
  rw [wanted_put oj a oi.dst v h1] at h
  split
  · rename_i hw
    simp only [hw, if_true] at h
    unfold Oper.wpIn at *
    refine ⟨fun _ _ => trivial, ?_⟩
    have h := h.2
    rw [semFW hdj, execOp_put oj hsj a oi.dst v h1] at h
    rw [semFW hdj]
    generalize (execOp a.eval oj).run P w = r at *
    cases r with
    | ok x w' =>
      cases x <;> simp only [Oper.uponIn] at h ⊢
      case value u => exact ⟨keep a hy u, by rw [← Act.put_comm a v u h2]; exact h⟩
      case skip => exact ⟨keep a hy _, by rw [← Act.put_comm a v undef h2]; exact h⟩
      case defer d =>
        refine ⟨keep _ (keepD d) _, ?_⟩
        rw [← Act.put_comm _ v undef h2, ← Act.put_defers]
        exact h
      case enter f args =>
        refine ⟨h.1, CallsIn.mono h.2 fun e w'' he => ?_⟩
        cases e with
        | returned u => exact ⟨keep a hy u, by rw [← Act.put_comm a v u h2]; exact he⟩
        | panicked c => exact hQ _ _ _ he
        | outgrown => exact he
      case row row args => exact ⟨h.1, RowsIn.mono h.2 fun u w'' he => ⟨keep a hy u, by rw [← Act.put_comm a v u h2]; exact he⟩⟩
      case round l f tmps assign body =>
        refine ⟨h.1, RoundIn.mono h.2 fun e w'' he => ?_⟩
        cases e with
        | returned u => exact ⟨keep a hy u, by rw [← Act.put_comm a v u h2]; exact he⟩
        | panicked c => exact hQ _ _ _ he
        | outgrown => exact he
    | halt x w' =>
      cases x <;> simp only [Oper.uponIn] at h ⊢
      case panic u => exact hQ _ _ _ h
  · rename_i hw
    simp only [hw] at h
    exact ⟨fun _ _ => trivial, keep a hy _, by rw [← Act.put_comm a v undef h2]; exact h.2⟩
end

end Go.E

namespace Go.E
open Go

def wpAnyG (r : Option Nat) (P : Program) (md : Region.Mode) (ops : Array Oper) (Q : Exit → Act → World → Prop) (qt : Nat → Bool) : Nat → Array Bool → Act → World → Prop
  | 0, listed, a, w => Region.ready md ops listed = [] ∧ Q .normal a w
  | fuel + 1, listed, a, w =>
    (Region.ready md ops listed = [] → Q .normal a w) ∧
    ∀ i ∈ Region.ready md ops listed, wpOpIn (FW r) 0 P ops Q i (fun a' w' => (qt i = true → w' = w) ∧ wpAnyG r P md ops Q qt fuel (listed.setIfInBounds i true) a' w') a w
section
variable {r : Option Nat} {P : Program} {md : Region.Mode} {ops : Array Oper} {Q : Exit → Act → World → Prop} {qt : Nat → Bool}
theorem wpAny_of_G : ∀ (fuel : Nat) (listed : Array Bool) (a : Act) (w : World), wpAnyG r P md ops Q qt fuel listed a w → wpAnyIn (FW r) 0 P md ops Q fuel listed a w
  | 0, _, _, _, h => h
  | fuel + 1, _, _, _, h => ⟨h.1, fun i hi => wpOpIn_mono (fun a' w' h' => wpAny_of_G fuel _ a' w' h'.2) (h.2 i hi)⟩

theorem yieldsIf_world {S S' : World → Prop} {o : Oper} {v : Value} {a : Act} (h : YieldsIf P ops S o v a) (hS : ∀ w, S' w → S w) : YieldsIf P ops S' o v a :=
  h.imp (fun ⟨hw, hv⟩ => ⟨hw, fun w hw' => hv w (hS w hw')⟩) id

theorem not_listed {i : Nat} {listed : Array Bool} (h : listed.getD i true = false) : listed.getD i false = false := by
  rcases Nat.lt_or_ge i listed.size with h' | h'
  · simp [h'] at h ⊢; exact h
  · simp [Array.getElem?_eq_none h'] at h

theorem wpAnyG_first {i : Nat} {oi : Oper} {v : Value} {ld : Bool} (hi : ops[i]? = some oi) (hsel : ∀ (j : Nat) (o : Oper) cs b, ops[j]? = some o → o.op ≠ .select cs b)
    (hdf : ∀ (j : Nat) (o : Oper), ops[j]? = some o → noDef o = true) (hQ : ∀ c a w, Q (.panic c) (a.put oi.dst v) w → Q (.panic c) a w) (hqi : qt i = true) (D : List Nat)
    (hD : ∀ j ∈ D, ∃ oj, ops[j]? = some oj ∧ ∃ e ∈ oj.after, Region.binds md e = true ∧ (e.on = i ∨ e.on ∈ D)) :
    ∀ (fuel : Nat) (listed : Array Bool) (a : Act) (w : World), (∀ j ∈ D, listed.getD j false = false) →
      (∀ j oj, ops[j]? = some oj → j ≠ i → listed.getD j true = false → j ∉ D → oi.apart ops oj = true ∧ (ld = true → qt j = true)) →
      i ∈ Region.ready md ops listed → YieldsIf P ops (fun w' => ld = true → w' = w) oi v a →
      wpAnyG r P md ops Q qt fuel (listed.setIfInBounds i true) (a.put oi.dst v) w → wpAnyG r P md ops Q qt (fuel + 1) listed a w := by
  intro fuel
  induction fuel with
  | zero =>
    intro listed a w _ _ hr hy H
    refine ⟨fun h => (by rw [h] at hr; cases hr), fun j hj => ?_⟩
    by_cases hji : j = i
    · subst hji; exact wpOpIn_yields (.inr (hdf j oi hi)) hi hy (fun _ => rfl) ⟨fun _ => rfl, H⟩
    · have := ready_mono hj hji
      rw [H.1] at this
      cases this
  | succ fuel ih =>
    intro listed a w hDl hfree hr hy H
    refine ⟨fun h => (by rw [h] at hr; cases hr), fun j hj => ?_⟩
    by_cases hji : j = i
    · subst hji; exact wpOpIn_yields (.inr (hdf j oi hi)) hi hy (fun _ => rfl) ⟨fun _ => rfl, H⟩
    · have h1 := H.2 j (ready_mono hj hji)
      obtain ⟨hjun, oj, hoj, hall⟩ := mem_ready.1 hj
      have hjD : j ∉ D := fun hm => by
        obtain ⟨oj', hoj', e, he, hb, hor⟩ := hD j hm
        rw [hoj] at hoj'; cases hoj'
        have := hall e he hb
        rcases hor with h | h
        · rw [h] at this
          rw [not_listed (mem_ready.1 hr).1] at this; cases this
        · rw [hDl _ h] at this; cases this
      obtain ⟨hap, hld⟩ := hfree j oj hoj hji hjun hjD
      have h2 := wpOpIn_putIf (.inr (hdf j oj hoj)) hoj hap (fun cs b => hsel i oi cs b hi) (fun cs b => hsel j oj cs b hoj) hQ hy h1
      have hfree' : ∀ k ok, ops[k]? = some ok → k ≠ i → (listed.setIfInBounds j true).getD k true = false → k ∉ D → oi.apart ops ok = true ∧ (ld = true → qt k = true) := fun k ok hk hki hun hno => by
        refine hfree k ok hk hki ?_ hno
        by_cases hjk : j = k
        · subst hjk; exact hjun
        · rw [getD_set_ne true hjk] at hun; exact hun
      have hDl' : ∀ k ∈ D, (listed.setIfInBounds j true).getD k false = false := fun k hk => by
        by_cases hjk : j = k
        · subst hjk; exact absurd hk hjD
        · rw [getD_set_ne false hjk]; exact hDl k hk
      refine wpOpIn_mono (fun a' w' h3 => ⟨h3.2.1, ih (listed.setIfInBounds j true) a' w' hDl' hfree' (ready_mono hr (Ne.symm hji)) ?_ ?_⟩) h2
      · refine yieldsIf_world h3.1 fun w2 h hl => ?_
        rw [h hl, h3.2.1 (hld hl)]
      · rw [Array.setIfInBounds_comm _ _ hji]
        exact h3.2.2
end

inductive Sch where
  | done
  | one (i : Nat) (r : Sch)
  | alt (a b : Sch)
def Sch.heads : Sch → List Nat
  | .done => []
  | .one i _ => [i]
  | .alt a b => a.heads ++ b.heads
def Sch.depth : Sch → Nat
  | .done => 0
  | .one _ r => r.depth + 1
  | .alt a b => max a.depth b.depth

def k0At (ops : Array Oper) (j : Nat) : Bool := match ops[j]? with | some o => k0 o.op | none => false
def RM (n m : Nat) (listed : Array Bool) : Prop := listed.size = n ∧ ∀ j, listed.getD j false = m.testBit j
theorem RM.at_ {n m : Nat} {listed : Array Bool} (h : RM n m listed) {j : Nat} (hj : j < n) : listed.getD j true = m.testBit j := by
  rw [← h.2 j]
  have : j < listed.size := by rw [h.1]; exact hj
  simp [Array.getD, this]
theorem RM.zero {n : Nat} : RM n 0 (Array.replicate n false) := by
  refine ⟨by simp, fun j => ?_⟩
  rw [Nat.zero_testBit]
  by_cases h : j < n <;> simp [Array.getD, h]
theorem RM.set {n m : Nat} {listed : Array Bool} (h : RM n m listed) {i : Nat} (hi : i < n) : RM n (m ||| (1 <<< i)) (listed.setIfInBounds i true) := by
  refine ⟨by simp [h.1], fun j => ?_⟩
  rw [Nat.testBit_or, Nat.one_shiftLeft, Nat.testBit_two_pow]
  have h2 := h.2 j
  by_cases hij : i = j
  · subst hij
    have : i < listed.size := by rw [h.1]; exact hi
    simp [this]
  · rw [getD_set_ne false hij, h2]; simp [hij]
def rdyN (ops : List Oper) (m i : Nat) : Bool := !m.testBit i && match ops[i]? with | some o => o.after.all fun e => !Region.binds .any e || m.testBit e.on | none => false
def rdysN (ops : List Oper) (n m : Nat) : List Nat := (List.range n).filter (rdyN ops m)
theorem rdyN_eq {ops : List Oper} {m i : Nat} {listed : Array Bool} (h : RM ops.length m listed) (hi : i < ops.length) : rdyN ops m i = (!listed.getD i true && ((ops.toArray[i]?).map (·.after.all fun e => !Region.binds .any e || listed.getD e.on false)).getD false) := by
  unfold rdyN
  rw [h.at_ hi]
  simp only [List.getElem?_toArray, List.getElem?_eq_getElem hi, Option.map_some, Option.getD_some, h.2]
theorem rdysN_eq {ops : List Oper} {m : Nat} {listed : Array Bool} (h : RM ops.length m listed) : rdysN ops ops.length m = Region.ready .any ops.toArray listed := by
  unfold rdysN Region.ready
  simp only [List.size_toArray]
  exact List.filter_congr fun i hi => rdyN_eq h (List.mem_range.1 hi)
def descN (i : Nat) : List Oper → Nat → Nat → Nat
  | [], _, D => D
  | o :: r, j, D => match o.after.any (fun e => Region.binds .any e && (e.on == i || D.testBit e.on)) with
    | true => descN i r (j + 1) (D ||| (1 <<< j))
    | false => descN i r (j + 1) D
def restN (ops : Array Oper) (n i m D : Nat) (o : Oper) : List Oper → Nat → Bool
  | [], _ => true
  | oj :: r, j => (match D.testBit j with
      | true => !m.testBit j && oj.after.any (fun e => Region.binds .any e && (e.on == i || (Nat.blt e.on n && D.testBit e.on)))
      | false => j == i || m.testBit j || (o.apart ops oj && (!reads o.op || k0 oj.op))) && restN ops n i m D o r (j + 1)
def takeN (ops : List Oper) (n m i : Nat) : Bool := match ops[i]? with
  | none => false
  | some o => k0 o.op && rdyN ops m i && restN ops.toArray n i m (descN i ops 0 0) o ops 0
theorem restN_at {ops : Array Oper} {n i m D : Nat} {o : Oper} : ∀ (l : List Oper) (k : Nat), restN ops n i m D o l k = true → ∀ (j : Nat) (oj : Oper), l[j]? = some oj →
    (D.testBit (k + j) = true → (m.testBit (k + j) = false ∧ oj.after.any (fun e => Region.binds .any e && (e.on == i || (Nat.blt e.on n && D.testBit e.on))) = true)) ∧
    (D.testBit (k + j) = false → k + j = i ∨ m.testBit (k + j) = true ∨ (o.apart ops oj && (!reads o.op || k0 oj.op)) = true)
  | [], _, _, j, oj, hj => by simp at hj
  | o' :: r, k, h, 0, oj, hj => by
    simp only [restN, Bool.and_eq_true] at h
    obtain rfl : o' = oj := by simpa using hj
    have h1 := h.1
    rw [Nat.add_zero]
    constructor
    · intro hd; rw [hd] at h1; simpa using h1
    · intro hd; rw [hd] at h1; simp only [Bool.or_eq_true, beq_iff_eq] at h1
      rcases h1 with (h1 | h1) | h1
      · exact .inl h1
      · exact .inr (.inl h1)
      · exact .inr (.inr h1)
  | o' :: r, k, h, j + 1, oj, hj => by
    simp only [restN, Bool.and_eq_true] at h
    have := restN_at r (k + 1) h.2 j oj (by simpa using hj)
    rw [show k + (j + 1) = k + 1 + j by omega]; exact this
theorem takeN_spec {ops : List Oper} {listed : Array Bool} {m i : Nat} {o : Oper} (hm : RM ops.length m listed) (hi : ops[i]? = some o) (h : takeN ops ops.length m i = true) :
    k0 o.op = true ∧ i ∈ Region.ready .any ops.toArray listed ∧ ∃ D : List Nat,
      (∀ j ∈ D, listed.getD j false = false ∧ ∃ oj, ops[j]? = some oj ∧ ∃ e ∈ oj.after, Region.binds .any e = true ∧ (e.on = i ∨ e.on ∈ D)) ∧
      ∀ j oj, ops[j]? = some oj → j ≠ i → listed.getD j true = false → j ∉ D → o.apart ops.toArray oj = true ∧ (reads o.op = true → k0 oj.op = true) := by
  have hlt : i < ops.length := (List.getElem?_eq_some_iff.1 hi).1
  unfold takeN at h
  simp only [hi, Bool.and_eq_true] at h
  obtain ⟨⟨h1, h2⟩, h3⟩ := h
  generalize descN i ops 0 0 = D at h3
  have h4 := restN_at _ _ h3
  simp only [Nat.zero_add] at h4
  have hmem : ∀ {j : Nat}, j ∈ (List.range ops.length).filter (D.testBit ·) ↔ j < ops.length ∧ D.testBit j = true := by intro j; rw [List.mem_filter, List.mem_range]
  refine ⟨h1, ?_, (List.range ops.length).filter (D.testBit ·), fun j hj => ?_, fun j oj hoj hji hun hjD => ?_⟩
  · rw [← rdysN_eq hm]
    exact List.mem_filter.2 ⟨List.mem_range.2 hlt, h2⟩
  · obtain ⟨hj1, hj2⟩ := hmem.1 hj
    obtain ⟨h5, h6⟩ := (h4 j ops[j] (List.getElem?_eq_getElem hj1)).1 hj2
    refine ⟨by rw [hm.2 j, h5], ops[j], List.getElem?_eq_getElem hj1, ?_⟩
    obtain ⟨e, he, hb⟩ := Array.any_eq_true'.1 h6
    simp only [Bool.and_eq_true, Bool.or_eq_true, beq_iff_eq, Nat.blt_eq] at hb
    refine ⟨e, he, hb.1, hb.2.imp id fun hx => hmem.2 hx⟩
  · have hj1 : j < ops.length := (List.getElem?_eq_some_iff.1 hoj).1
    have hD : D.testBit j = false := by
      cases hd : D.testBit j
      · rfl
      · exact absurd (hmem.2 ⟨hj1, hd⟩) hjD
    rcases (h4 j oj hoj).2 hD with h5 | h5 | h5
    · exact absurd h5 hji
    · rw [hm.at_ hj1, h5] at hun; cases hun
    · simp only [Bool.and_eq_true, Bool.or_eq_true, Bool.not_eq_true'] at h5
      refine ⟨h5.1, fun hr => ?_⟩
      rcases h5.2 with h | h
      · rw [hr] at h; cases h
      · exact h

mutual
def schOk (ops : List Oper) (n : Nat) : Sch → Nat → Bool
  | .done, m => (rdysN ops n m).isEmpty
  | .one i r, m => (takeN ops n m i || rdysN ops n m == [i]) && schOk ops n r (m ||| (1 <<< i))
  | .alt a b, m => rdysN ops n m == a.heads ++ b.heads && schSubs ops n a m && schSubs ops n b m
def schSubs (ops : List Oper) (n : Nat) : Sch → Nat → Bool
  | .done, _ => false
  | .one i r, m => Nat.blt i n && schOk ops n r (m ||| (1 <<< i))
  | .alt a b, m => schSubs ops n a m && schSubs ops n b m
end
end Go.E

namespace Go.E
open Go

abbrev IW (P : Program) : Machine → Prop := Machine.fenced P Fence.wide
theorem one_step {P : Program} {m m' : Machine} (h : step P m = .next m') : StepsIn (IW P) P m m' := .one (fenced_wide P m) h
def wpX (r : Option Nat) (P : Program) (c : Code) (Q : Exit → Act → World → Prop) (a : Act) (w : World) : Prop :=
  ∀ (b : Frame) (k : List Item) (cs : List Frame), b.roundOf = r → b.fn < P.funcs.size → ∃ e a' w', Q e a' w' ∧ ArrivesIn (IW P) P (lone (b.atR a (.code c :: k)) cs w) b k cs e a' w'
section
variable {r : Option Nat} {P : Program} {Q : Exit → Act → World → Prop} {a : Act} {w : World}
theorem wpX_of {c : Code} (h : c.wpIn (FW r) 0 P Q a w) : wpX r P c Q a w := fun b k cs hr _ => h b k cs hr trivial (FW_room _)
theorem wpX_mono {c : Code} {Q' : Exit → Act → World → Prop} (hq : ∀ e a w, Q e a w → Q' e a w) (h : wpX r P c Q a w) : wpX r P c Q' a w := fun b k cs hr hf =>
  let ⟨e, a', w', q, s⟩ := h b k cs hr hf; ⟨e, a', w', hq _ _ _ q, s⟩
theorem arr_pass {m m1 : Machine} {b : Frame} {x : Item} {k : List Item} {cs : List Frame} {e : Exit} (hx : x.plain = true) (he : e ≠ .normal) (s : StepsIn (IW P) P m m1) (h : ArrivesIn (IW P) P m1 b (x :: k) cs e a w) : ArrivesIn (IW P) P m b k cs e a w :=
  .of_steps s (.pass hx (fun _ _ => .inl he) h)
theorem wpX_seq {x y : Code} (h : wpX r P x (Exit.then (wpX r P y Q) Q) a w) : wpX r P (.seq x y) Q a w := fun b k cs hr hf => by
  obtain ⟨e, a1, w1, q, s⟩ := h b (.code y :: k) cs hr hf
  have s0 : StepsIn (IW P) P (lone (b.atR a (.code (.seq x y) :: k)) cs w) _ := one_step stepR_seq
  by_cases he : e = .normal
  · subst he
    obtain ⟨e2, a2, w2, q2, t⟩ := q b k cs hr hf
    exact ⟨e2, a2, w2, q2, .of_steps (s0.trans s) t⟩
  · refine ⟨e, a1, w1, ?_, arr_pass rfl he s0 s⟩
    cases e <;> first | exact absurd rfl he | exact q
theorem wpX_cond {c : Operand} {x y : Code} {t : Bool} (hc : a.eval c = .bool t) (h : wpX r P (if t then x else y) Q a w) : wpX r P (.cond c x y) Q a w := fun b k cs hr hf => by
  obtain ⟨e, a1, w1, q, s⟩ := h b k cs hr hf
  exact ⟨e, a1, w1, q, .of_steps (one_step (stepR_cond hc)) s⟩
theorem wpX_block {id : Nat} {c : Code} (h : wpX r P c (Exit.inBlock id Q) a w) : wpX r P (.block id c) Q a w := fun b k cs hr hf => by
  obtain ⟨e, a1, w1, q, s⟩ := h b (.inBlock id :: k) cs hr hf
  have s0 : StepsIn (IW P) P (lone (b.atR a (.code (.block id c) :: k)) cs w) _ := one_step stepR_block
  cases e with
  | normal => exact ⟨.normal, a1, w1, q, (s0.trans s).trans (one_step stepR_inBlock)⟩
  | exit i =>
    by_cases hi : i = id
    · subst hi
      refine ⟨.normal, a1, w1, ?_, s0.trans (s.1 k ?_)⟩
      · simpa [Exit.inBlock] using q
      · simp [exitTo]
    · have hb : (id == i) = false := by simpa using fun e : id = i => hi e.symm
      have hx : exitTo i (.inBlock id :: k) = exitTo i k := by simp [exitTo, hb]
      refine ⟨.exit i, a1, w1, by simpa [Exit.inBlock, hi] using q, fun k' hk => s0.trans (s.1 k' (hx.trans hk)), fun h1 h2 => ?_⟩
      obtain ⟨k1, p1, p2⟩ := s.2 h1 (hx.trans h2)
      exact ⟨k1, p1, s0.trans p2⟩
  | goto l =>
    have hx : gotoIn l (.inBlock id :: k) = gotoIn l k := by simp [gotoIn]
    refine ⟨.goto l, a1, w1, q, fun k' hk => s0.trans (s.1 k' (hx.trans hk)), fun h1 h2 => ?_⟩
    obtain ⟨k1, p1, p2⟩ := s.2 h1 (hx.trans h2)
    exact ⟨k1, p1, s0.trans p2⟩
  | ret => exact ⟨_, a1, w1, q, .of_steps s0 s⟩
  | panic c => exact ⟨_, a1, w1, q, .of_steps s0 s⟩
  | outgrown => exact ⟨_, a1, w1, q, .of_steps s0 s⟩
theorem wpX_loop_ghost {c : Code} (I : Nat → Act → World → Prop) (n0 : Nat) (h0 : I n0 a w)
    (round : ∀ n a w, I n a w → wpX r P c (Exit.then (fun a' w' => ∃ n', n' < n ∧ I n' a' w') Q) a w) : wpX r P (.loop c) Q a w := fun b k cs hr hf => by
  have key : ∀ n a w, I n a w → ∃ e a' w', Q e a' w' ∧ ArrivesIn (IW P) P (lone (b.atR a (.code c :: .inLoop c :: k)) cs w) b k cs e a' w' := by
    intro n
    induction n using Nat.strongRecOn with
    | _ n ih =>
      intro a w hI
      obtain ⟨e, a1, w1, q, s⟩ := round n a w hI b (.inLoop c :: k) cs hr hf
      by_cases he : e = .normal
      · subst he
        obtain ⟨n', hn, hI'⟩ := q
        obtain ⟨e2, a2, w2, q2, t⟩ := ih n' hn a1 w1 hI'
        exact ⟨e2, a2, w2, q2, .of_steps (StepsIn.trans s (one_step stepR_inLoop)) t⟩
      · refine ⟨e, a1, w1, ?_, arr_pass rfl he (.refl _) s⟩
        cases e <;> first | exact absurd rfl he | exact q
  obtain ⟨e, a1, w1, q, s⟩ := key n0 a w h0
  exact ⟨e, a1, w1, q, .of_steps (one_step stepR_loop) s⟩
theorem wpX_scope {c : Code} (h : wpX r P c (Exit.noGoto Q) a w) : wpX r P (.scope c) Q a w := fun b k cs hr hf => by
  obtain ⟨e, a1, w1, q, s⟩ := h b (.inScope c :: k) cs hr hf
  have s0 : StepsIn (IW P) P (lone (b.atR a (.code (.scope c) :: k)) cs w) (lone (b.atR a (.code c :: .inScope c :: k)) cs w) := one_step (step_lone_go (by simp [stepG, stepG.exec, Frame.atR]))
  have s2 : step P (lone (b.atR a1 (.inScope c :: k)) cs w1) = .next (lone (b.atR a1 k) cs w1) := step_lone_go (by simp [stepG, stepG.exec, Frame.atR])
  cases e with
  | normal => exact ⟨.normal, a1, w1, q, (s0.trans s).trans (one_step s2)⟩
  | exit i =>
    by_cases hk : exitTo i k = none
    · have hx : exitTo i (.inScope c :: k) = none := by simp [exitTo, hk]
      refine ⟨.exit i, a1, w1, q, fun k' h' => (by rw [hk] at h'; cases h'), fun h1 _ => ?_⟩
      obtain ⟨k1, p1, p2⟩ := s.2 h1 hx
      exact ⟨k1, p1, s0.trans p2⟩
    · exact ⟨.exit i, a1, w1, q, fun k' h' => s0.trans (s.1 k' (by simp [exitTo, h'])), fun _ h' => absurd h' hk⟩
  | goto l => exact q.elim
  | ret => exact ⟨_, a1, w1, q, .of_steps s0 s⟩
  | panic ch => exact ⟨_, a1, w1, q, .of_steps s0 s⟩
  | outgrown => exact ⟨_, a1, w1, q, .of_steps s0 s⟩
end

def rangePostX (r : Option Nat) (P : Program) (l : Nat) (Q : Exit → Act → World → Prop) (a' : Act) : Ending → World → Prop
  | .returned _, w3 => ∃ jump w4, (Instr.endLoop l).run P w3 = .ok jump w4 ∧ (match jump with | none => Q .normal a' w4 | some c => wpX r P c Q a' w4)
  | .panicked c, w3 => Q (.panic c) a' w3
  | .outgrown, _ => False
theorem wpX_rangeFunc {r : Option Nat} {P : Program} {g : Operand} {ps : Array Tmp} {assign body : Code} {Q : Exit → Act → World → Prop} {a : Act} {w : World}
    (h : ∀ fn, fn < P.funcs.size → ∃ (l : Nat) (mark : List Deferred) (w1 : World) (d : Deferred) (f : FuncId) (args : Array Value),
      (Instr.enterLoop fn a.tmps ps assign body r).run P w = .ok (l, mark) w1 ∧ (resolve a.eval (rangeCall g l) 0).run P w1 = .ok d w1 ∧ (invoke d.target d.args).run P w1 = .ok (.enter f args) w1 ∧
      Calls P f args w1 (rangePostX r P l Q { a with defers := mark ++ a.defers })) :
    wpX r P (.rangeFunc g ps assign body) Q a w := fun b k cs hr hf => by
  obtain ⟨l, mark, w1, d, f, args, he, hres, hinv, hcall⟩ := h b.fn hf
  rw [← hr] at he
  have henter : StepsIn (IW P) P _ _ := one_step (stepR_rangeFunc (P := P) (b := b) (a := a) (k := k) (cs := cs) (w := w) he hres hinv)
  obtain ⟨e, w3, fr, hR, hs, _, hl⟩ := hcall (b.atR { a with defers := mark ++ a.defers } (.inRangeFunc l :: k) :: cs)
  cases e with
  | outgrown => exact hR.elim
  | returned v =>
    obtain ⟨jump, w4, hend, hj⟩ := hR
    have hb := step_leave_returned (c := b.atR { a with defers := mark ++ a.defers } (.inRangeFunc l :: k)) (cs := cs) hl
    rw [finish_atR_inRangeFunc l v] at hb
    have s : StepsIn (IW P) P (lone (b.atR a (.code (.rangeFunc g ps assign body) :: k)) cs w) (lone (b.atR { a with defers := mark ++ a.defers } ((jump.map Item.code).toList ++ k)) cs w4) :=
      henter.trans ((stepsIn_wide.2 hs).trans ((one_step hb).trans (one_step (stepR_endRangeFunc hend))))
    cases jump with
    | none => exact ⟨.normal, _, w4, hj, s⟩
    | some c =>
      obtain ⟨e', a', w5, q, t⟩ := hj b k cs hr hf
      exact ⟨e', a', w5, q, .of_steps s t⟩
  | panicked ch =>
    have hb := step_leave_panicked (c := b.atR { a with defers := mark ++ a.defers } (.inRangeFunc l :: k)) (cs := cs) hl
    rw [Frame.raise_atR] at hb
    exact ⟨.panic ch, _, w3, hR, _, henter.trans ((stepsIn_wide.2 hs).trans (one_step hb))⟩

theorem calls_of_wpX {P : Program} {f : FuncId} {fn : Func} {c : Code} {args : Array Value} {w : World} {R : Ending → World → Prop} (hf : P.funcs[f]? = some fn) (hb : fn.body = some c)
    (h : wpX none P c (bodyPostM (FW none) 0 P fn R) { tmps := args ++ Array.replicate (fn.ntmps - args.size) undef, defers := [] } w) : Calls P f args w R := by
  refine (callsFW (r := none) (n := 0)).1 ⟨trivial, fun cs hr => ?_⟩
  let b : Frame := { (default : Frame) with fn := f, kind := .normal, roundOf := none }
  have henter : Frame.enter P f args .normal = b.atR { tmps := args ++ Array.replicate (fn.ntmps - args.size) undef, defers := [] } [.code c] := by
    simp [Frame.enter, Frame.atR, hf, hb, b]
  have hlt : f < P.funcs.size := by
    obtain ⟨h, _⟩ := Array.getElem?_eq_some_iff.1 hf; exact h
  obtain ⟨e, a', w', q, s⟩ := h b [] cs rfl hlt
  rw [henter]
  have fin : ∀ {u : FrameMode} {todo : List Item}, StepsIn (IW P) P (lone (b.atR { tmps := args ++ Array.replicate (fn.ntmps - args.size) undef, defers := [] } [.code c]) cs w) (lone { b.atR a' todo with mode := u } cs w') → LeavesInM (FW none) 0 P fn a'.tmps R a'.defers u w' →
      ∃ e w'' fr, R e w'' ∧ ComesIn (IW P) P (lone (b.atR { tmps := args ++ Array.replicate (fn.ntmps - args.size) undef, defers := [] } [.code c]) cs w) (lone fr cs w'') e ∧ fr.fn = f ∧ fr.leaving P w'' e := fun {u todo} s q => by
    obtain ⟨e', w'', fr, hR, t, hfn, hl⟩ := leaves_stepsInM (F := FW none) (n := 0) a'.defers u w' { b.atR a' todo with mode := u } cs rfl rfl rfl hf rfl trivial (FW_room _) q
    exact ⟨e', w'', fr, hR, ComesIn.of_steps s t, hfn, hl⟩
  cases e with
  | normal => exact fin (StepsIn.trans s (one_step (stepR_end rfl))) q
  | ret => obtain ⟨todo, s⟩ := s.1 rfl; exact fin s q
  | panic ch => obtain ⟨todo, s⟩ := s; exact fin s q
  | exit id => exact q.elim
  | goto l => exact q.elim
  | outgrown => exact ⟨.outgrown, w', b, q, s.resolve_left (by simp [b]), rfl, trivial⟩

def wpSX (P : Program) (c : Code) (Q : Exit → Act → List Frame → World → Prop) (a : Act) (cs : List Frame) (w : World) : Prop :=
  ∀ (b : Frame) (k : List Item), b.kind = .deferred → b.roundOf = none → b.fn < P.funcs.size → ∃ e a' cs' w', Q e a' cs' w' ∧ Arrives P (lone (b.at a (.code c :: k)) cs w) b k cs' e a' w'
theorem wpSX_of {P : Program} {c : Code} {Q : Exit → Act → List Frame → World → Prop} {a : Act} {cs : List Frame} {w : World} (h : wpX none P c (fun e a w => Q e a cs w) a w) : wpSX P c Q a cs w := fun b k _ hr hf => by
  obtain ⟨e, a', w', q, s⟩ := h b k cs hr hf
  rw [Frame.atR_of_none hr] at s
  exact ⟨e, a', cs, w', q, (arrivesIn_iff (fun _ _ => stepsIn_wide) hr).1 s⟩
theorem wpSX_region_seq {P : Program} {id : Nat} {ops : Array Oper} {y : Code} {Q : Exit → Act → List Frame → World → Prop} {a : Act} {cs : List Frame} {w : World} (h : wpOpsS P ops (Exit.thenS (wpSX P y Q) Q) (List.range ops.size) a cs w) : wpSX P (.seq (.region id ops false) y) Q a cs w := fun b k hk hr hf => by
  obtain ⟨e, a1, cs1, w1, q, s⟩ := wpS_region (id := id) h b (.code y :: k) hk hr
  by_cases he : e = .normal
  · subst he
    obtain ⟨e2, a2, cs2, w2, q2, t⟩ := q b k hk hr hf
    exact ⟨e2, a2, cs2, w2, q2, .of_steps (.head step_seq s) t⟩
  · refine ⟨e, a1, cs1, w1, ?_, .of_steps (.one step_seq) (.pass (x := .code y) rfl (fun _ _ => .inl he) s)⟩
    cases e <;> first | exact absurd rfl he | exact q
end Go.E

namespace Go.E
open Go Go.RowKit

structure Shut (ms : List Nat) (w w' : World) : Prop where
  heap : ∀ b, b ∉ ms → w'.heap[b]? = w.heap[b]?
  size : w'.heap.size = w.heap.size
  os : w'.os = w.os
  tape : w'.tape = w.tape
  output : w'.output = w.output
theorem Shut.refl (w : World) : Shut [] w w := ⟨fun _ _ => rfl, rfl, rfl, rfl, rfl⟩

theorem isMark_col {t : Target} {args : Array Value} (h : isMark { target := t, args := args } = true) : ∃ r, t = .collected r := by
  cases t <;> simp [isMark] at h
  exact ⟨_, rfl⟩
theorem strip_cons {d : Deferred} {ds : List Deferred} (hs : strip (d :: ds) = []) : isMark d = true ∧ strip ds = [] := by
  cases hd : isMark d with
  | true => exact ⟨rfl, by simpa [strip, hd] using hs⟩
  | false => simp [strip, hd] at hs
theorem marks_app (a b : List Deferred) : marks (a ++ b) = marks a ++ marks b := by simp [marks]
theorem Shut.cons {r : Nat} {ms : List Nat} {w w' : World} (h : Shut ms (w.putObj r (.deferred none)) w') : Shut (r :: ms) w w' :=
  ⟨fun b hb => by
    rw [h.heap b (fun hb' => hb (List.mem_cons_of_mem _ hb')), World.putObj_heap_other (fun e => hb (by rw [e]; simp))], by rw [h.size]; simp [World.putObj], h.os, h.tape, h.output⟩
theorem leave_app {F : Fence} {n : Nat} {P : Program} {fn : Func} {tmps : Array Value} {R : Ending → World → Prop} {u : FrameMode} (hu : u ≠ .run) (rest : List Deferred) : ∀ (ds : List Deferred) (w : World), strip ds = [] → (marks ds).Nodup → (∀ r ∈ marks ds, w.heap[r]? = some (.deferred (some []))) →
    (∀ w', Shut (marks ds) w w' → LeavesInM F n P fn tmps R rest u w') → LeavesInM F n P fn tmps R (ds ++ rest) u w
  | [], w, _, _, _, h => h w (Shut.refl w)
  | d :: ds, w, hs, hn, hm, h => by
    obtain ⟨t, args⟩ := d
    obtain ⟨hd, hs⟩ := strip_cons hs
    obtain ⟨r, rfl⟩ := isMark_col hd
    have e1 : marks ({ target := .collected r, args := args } :: ds) = r :: marks ds := by simp [marks, markOf]
    rw [e1] at hn hm h
    obtain ⟨hn1, hn2⟩ := List.nodup_cons.1 hn
    have hr := hm r (by simp)
    refine ⟨hu, .inl ⟨r, _, rfl, run_takeDeferred hr, leave_app hu rest ds _ hs hn2 (fun q hq => ?_) fun w' hw' => h w' hw'.cons⟩⟩
    rw [World.putObj_heap_other (fun e => hn1 (by rw [← e]; exact hq))]; exact hm q (List.mem_cons_of_mem _ hq)
theorem leave_marks {F : Fence} {n : Nat} {P : Program} {fn : Func} {tmps : Array Value} {R : Ending → World → Prop} {u : FrameMode} (hu : u ≠ .run) (ds : List Deferred) (w : World) (hs : strip ds = []) (hn : (marks ds).Nodup) (hm : ∀ r ∈ marks ds, w.heap[r]? = some (.deferred (some [])))
    (h : ∀ w', Shut (marks ds) w w' → LeavesInM F n P fn tmps R [] u w') : LeavesInM F n P fn tmps R ds u w := by
  have := leave_app hu [] ds w hs hn hm h
  rwa [List.append_nil] at this
theorem strip_one {d0 : Deferred} : ∀ {ds : List Deferred}, strip ds = [d0] → ∃ m1 m2, ds = m1 ++ d0 :: m2 ∧ strip m1 = [] ∧ strip m2 = []
  | [], h => by simp [strip] at h
  | d :: ds, h => by
    cases hd : isMark d with
    | true =>
      obtain ⟨m1, m2, e, h1, h2⟩ := strip_one (ds := ds) (by simpa [strip, hd] using h)
      exact ⟨d :: m1, m2, by rw [e]; rfl, by simp only [strip, List.filter_cons, hd] at *; simpa using h1, h2⟩
    | false =>
      have : d :: strip ds = [d0] := by simpa [strip, hd] using h
      obtain ⟨e1, e2⟩ := List.cons.inj this
      exact ⟨[], ds, by rw [e1]; rfl, rfl, e2⟩
theorem marks_steps {P : Program} {cs : List Frame} : ∀ (ds : List Deferred) (fr : Frame) (w : World), fr.mode ≠ .run → fr.defers = ds → strip ds = [] → (marks ds).Nodup → (∀ r ∈ marks ds, w.heap[r]? = some (.deferred (some []))) →
    ∃ w', Shut (marks ds) w w' ∧ Steps P (lone fr cs w) (lone { fr with defers := [] } cs w')
  | [], fr, w, _, hd, _, _, _ => ⟨w, Shut.refl w, by rw [← hd]; exact Steps.refl P _⟩
  | d :: ds, fr, w, hu, hfd, hs, hn, hm => by
    obtain ⟨t, args⟩ := d
    obtain ⟨hd, hs⟩ := strip_cons hs
    obtain ⟨r, rfl⟩ := isMark_col hd
    have e1 : marks ({ target := .collected r, args := args } :: ds) = r :: marks ds := by simp [marks, markOf]
    rw [e1] at hn hm
    obtain ⟨hn1, hn2⟩ := List.nodup_cons.1 hn
    have h1 := step_collected (P := P) (cs := cs) hu hfd rfl (run_takeDeferred (hm r (by simp)))
    obtain ⟨w', h2, h3⟩ := marks_steps (P := P) (cs := cs) ds { fr with defers := [] ++ ds } (w.putObj r (.deferred none)) hu rfl hs hn2 (fun q hq => by
      rw [World.putObj_heap_other (fun e : q = r => hn1 (by rw [← e]; exact hq))]; exact hm q (List.mem_cons_of_mem _ hq))
    exact ⟨w', by rw [e1]; exact h2.cons, .head h1 h3⟩

theorem marks_lt {W0 : World} {L0 L : Lay} {e : List AV} {s : Sto} {w : World} {a : Act} (hr : Rel W0 L0 L e s w a) {b : Nat} {o : Obj} (hb : w.heap[b]? = some o) (ho : ∀ x, o ≠ .deferred x) : b ∉ marks a.defers := fun hm => by
  have := (hr.mks.2 b hm).1
  rw [hb] at this
  cases this
  exact ho _ rfl

theorem mem_shut {L : Lay} {w w' : World} (h2 : ∀ b : Nat, L.own b = none → b < w.heap.size → w'.heap[b]? = w.heap[b]?) : (L.mem w).le (L.mem w') := look_le fun b hb hlt => ⟨hb, h2 b hb hlt⟩
theorem OwnRow.shut {L : Lay} {w w' : World} (h1 : ∀ (b : Nat) (c : Array Value) (t : TypeId) (f : Nat × Nat), w.heap[b]? = some (.cells c t f) → w'.heap[b]? = some (.cells c t f)) (h2 : ∀ b : Nat, L.own b = none → b < w.heap.size → w'.heap[b]? = w.heap[b]?) {g e s : Nat} {rows : List (List D)} {u : Value} (k : OwnRow L w g e s rows u) : OwnRow L w' g e s rows u := by
  obtain ⟨xs, k1, k2, k3, k5, k4⟩ := k
  refine ⟨xs, ⟨k1.1, ?_⟩, k2, k3, k5, DReps.mono (mem_shut h2) _ _ k4⟩
  rcases k1.2 with hn | ⟨b, cap, cur, e1, e2, e3, rest⟩
  · exact .inl hn
  · exact .inr ⟨b, cap, cur, e1, e2, h1 _ _ _ _ e3, rest⟩
mutual
theorem ARep.shut {L : Lay} {w w' : World} (h1 : ∀ (b : Nat) (c : Array Value) (t : TypeId) (f : Nat × Nat), w.heap[b]? = some (.cells c t f) → w'.heap[b]? = some (.cells c t f)) (h2 : ∀ b : Nat, L.own b = none → b < w.heap.size → w'.heap[b]? = w.heap[b]?) : ∀ (x : AV) (u : Value), ARep L w x u → ARep L w' x u
  | .any, _, _ => trivial
  | .d x, u, hr => DRep.mono (mem_shut h2) x u hr
  | .own _ _ _ _, _, ⟨e, hr⟩ => ⟨e, OwnRow.shut h1 h2 hr⟩
  | .eref _ _ _ _ _ _, _, ⟨hr, hi, b, n, c, e1, e2⟩ => ⟨OwnRow.shut h1 h2 hr, hi, b, n, c, e1, e2⟩
  | .ref _ _, _, e => e
  | .tup xs, _, ⟨us, e, k1⟩ => ⟨us, e, AReps.shut h1 h2 xs _ k1⟩
  | .agg xs, _, ⟨us, e, k1⟩ => ⟨us, e, AReps.shut h1 h2 xs _ k1⟩
  | .clo _ x y, _, ⟨xs, ys, e, k1, k2⟩ => ⟨xs, ys, e, AReps.shut h1 h2 x _ k1, AReps.shut h1 h2 y _ k2⟩
  | .iface _ x, _, ⟨y, e, k1⟩ => ⟨y, e, ARep.shut h1 h2 x y k1⟩
  | .yld _ _ _ _ _, _, k => k
  | .mp _, _, k => k
  | .it _, _, k => k
  | .bx _ _ _, _, k => k
theorem AReps.shut {L : Lay} {w w' : World} (h1 : ∀ (b : Nat) (c : Array Value) (t : TypeId) (f : Nat × Nat), w.heap[b]? = some (.cells c t f) → w'.heap[b]? = some (.cells c t f)) (h2 : ∀ b : Nat, L.own b = none → b < w.heap.size → w'.heap[b]? = w.heap[b]?) : ∀ (xs : List AV) (us : List Value), AReps L w xs us → AReps L w' xs us
  | [], _, k => k
  | x :: xs, _, ⟨u, ut, e, k1, k2⟩ => ⟨u, ut, e, ARep.shut h1 h2 x u k1, AReps.shut h1 h2 xs ut k2⟩
end
theorem Held.shut {L : Lay} {w w' : World} (h1 : ∀ (b : Nat) (c : Array Value) (t : TypeId) (f : Nat × Nat), w.heap[b]? = some (.cells c t f) → w'.heap[b]? = some (.cells c t f)) (h4 : ∀ (b : Nat) (c : Array MapEntry) (t : Nat), w.heap[b]? = some (.map c t) → w'.heap[b]? = some (.map c t)) (h5 : ∀ (b : Nat) (m : Option Nat) (si : Nat) (se : Array Nat) (c0 : Nat), w.heap[b]? = some (.mapIter m si se c0) → w'.heap[b]? = some (.mapIter m si se c0)) (h3 : ∀ (b : Nat) (r : Loop), w.heap[b]? = some (.loop r) → w'.heap[b]? = some (.loop r)) {g : Nat} {vs : List Value} (k : Held L w g vs) : Held L w' g vs := by
  unfold Held at k ⊢
  split at k
  · rcases k with k | k
    rotate_left
    · exact .inr k
    left
    obtain ⟨e0, ⟨e3, c, t, e1, e2⟩ | ⟨e3, ⟨c, t, e1, e4, e2⟩ | ⟨m, si, se, c0, e1, e4, e2⟩⟩ | ⟨e3, c, t, e1, e4, e5, e2⟩⟩ := k
    · exact ⟨e0, .inl ⟨e3, c, t, h1 _ _ _ _ e1, e2⟩⟩
    · exact ⟨e0, .inr (.inl ⟨e3, .inl ⟨c, t, h4 _ _ _ e1, e4, e2⟩⟩)⟩
    · exact ⟨e0, .inr (.inl ⟨e3, .inr ⟨m, si, se, c0, h5 _ _ _ _ _ e1, e4, e2⟩⟩)⟩
    · refine ⟨e0, .inr (.inr ⟨e3, c, t, h4 _ _ _ e1, e4, ⟨fun x hx => ?_, e5.2⟩, e2.trans ?_⟩)⟩
      · obtain ⟨b, c, t, q1, q2, q3⟩ := e5.1 x hx
        exact ⟨b, c, t, q1, h1 _ _ _ _ q2, q3⟩
      · unfold boxVs
        refine List.map_congr_left fun x hx => ?_
        obtain ⟨b, c, t, q1, q2, q3⟩ := e5.1 x hx
        rw [q1]
        simp only [boxC, q2, h1 _ _ _ _ q2]
  · obtain ⟨e0, z, e1, e2⟩ := k; exact ⟨e0, z, h3 _ _ e1, e2⟩

theorem Rel.shutP {W0 : World} {L0 L : Lay} {e : List AV} {s : Sto} {w w' : World} {a a2 : Act} {ms : List Nat} (hr : Rel W0 L0 L e s w a) (h : Shut ms w w') (hms : ∀ b ∈ ms, b ∈ marks a.defers) (ht : a2.tmps = a.tmps) (hst : strip a2.defers = strip a.defers) (hm2 : ∀ r ∈ marks a2.defers, r ∈ marks a.defers ∧ r ∉ ms) (hnd : (marks a2.defers).Nodup) : Rel W0 L0 L e s w' a2 := by
  have h1 : ∀ (b : Nat) (o : Obj), w.heap[b]? = some o → (∀ x, o ≠ Obj.deferred x) → w'.heap[b]? = some o := fun b o hb ho => by rw [h.heap b (fun hm => marks_lt hr hb ho (hms b hm))]; exact hb
  have h1' : ∀ (b : Nat) (c : Array Value) (t : TypeId) (f : Nat × Nat), w.heap[b]? = some (.cells c t f) → w'.heap[b]? = some (.cells c t f) := fun b c t f hb => h1 b _ hb (by simp)
  have h2 : ∀ b : Nat, L.own b = none → b < w.heap.size → w'.heap[b]? = w.heap[b]? := fun b hb _ => h.heap b fun hm => by rw [(hr.mks.2 b (hms b hm)).2] at hb; cases hb
  exact
    { slots := by rw [ht]; exact AReps.shut h1' h2 _ _ hr.slots
      hid := by obtain ⟨vs, e1, e2⟩ := hr.hid; exact ⟨vs, e1, by rw [← e2, hst]⟩
      rd := hr.rd
      mks := ⟨hnd, fun r hr' => ⟨(h.heap r (hm2 r hr').2).trans (hr.mks.2 r (hm2 r hr').1).1, (hr.mks.2 r (hm2 r hr').1).2⟩⟩
      mkb := fun r hr' => hr.mkb r (hm2 r hr').1
      kept := fun b o hb => ⟨let ⟨o', h1', h3⟩ := (hr.kept b o hb).1; ⟨o', (h.heap b fun hm => (hr.mkb b (hms b hm)).2 o hb).trans h1', h3⟩, (hr.kept b o hb).2⟩
      rdk := hr.rdk
      lke := hr.lke
      lkb := by rw [h.size]; exact hr.lkb
      lki := hr.lki
      objs := fun g c hc => ⟨fun h0 => AReps.shut h1' h2 _ _ ((hr.objs g c hc).1 h0), fun h0 => by
        obtain ⟨vs, e1, e2⟩ := (hr.objs g c hc).2 h0
        exact ⟨vs, Held.shut h1' (fun b c t hb => h1 b _ hb (by simp)) (fun b m si se c0 hb => h1 b _ hb (by simp)) (fun b r hb => h1 b _ hb (by simp)) e1, AReps.shut h1' h2 _ _ e2⟩⟩
      old := fun b hb h0 => ⟨(hr.old b hb h0).1, (h.heap b fun hm => by have := (hr.mkb b (hms b hm)).1; omega).trans (hr.old b hb h0).2⟩
      size := by rw [h.size]; exact hr.size
      own_lt := fun b g hb => by rw [h.size]; exact hr.own_lt b g hb
      os := h.os.trans hr.os
      tape := h.tape.trans hr.tape
      output := h.output.trans hr.output }
theorem Rel.shut {W0 : World} {L0 L : Lay} {e : List AV} {s : Sto} {w w' : World} {a : Act} (hr : Rel W0 L0 L e s w a) (hs : strip a.defers = []) (h : Shut (marks a.defers) w w') : Rel W0 L0 L e s w' { a with defers := [] } :=
  hr.shutP h (fun _ h => h) rfl (by rw [hs]; rfl) (by simp [marks]) (by simp [marks])
end Go.E

namespace Go.E
open Go Go.RowKit

def zcell (z : Int) : AV := .d (.v (.int .i64 z))
theorem zcell_rep {L : Lay} {w : World} {z : Int} {u : Value} (h : ARep L w (zcell z) u) : u = .int .i64 z := h

theorem Held.loop {L : Lay} {w : World} {g : Nat} {vs : List Value} {r : LoopS} (h : Held L w g vs) (hk : L.lk g = some r) : L.own r.l = some 0 ∧ ∃ z : Int, w.heap[r.l]? = some (.loop (r.at z)) ∧ vs = .int .i64 z :: r.tm.toList := by
  unfold Held at h; rw [hk] at h; exact h

theorem loop_at {W0 : World} {L0 L : Lay} {e : List AV} {s : Sto} {w : World} {a : Act} (hr : Rel W0 L0 L e s w a) {g : Nat} {r : LoopS} {z : Int} {sn : List AV} (hk : L.lk g = some r) (hs : s.get g = some (zcell z :: sn)) : L.own r.l = some 0 ∧ w.heap[r.l]? = some (.loop (r.at z)) ∧ AReps L w sn r.tm.toList := by
  have hg : g ≠ 0 := fun h => by have := (hr.lkb g r (by rw [← hr.lke]; exact hk)).1; omega
  obtain ⟨vs, h1, h2⟩ := (hr.objs g _ hs).2 hg
  obtain ⟨h3, z', h4, h5⟩ := h1.loop hk
  rw [h5] at h2
  obtain ⟨u, ut, e1, h6, h7⟩ := h2
  obtain ⟨rfl, rfl⟩ := List.cons.inj e1
  have := zcell_rep h6
  cases this
  exact ⟨h3, h4, h7⟩

theorem Rel.turn {W0 : World} {L0 L : Lay} {e : List AV} {s : Sto} {w : World} {a : Act} (hr : Rel W0 L0 L e s w a) {g : Nat} {r : LoopS} {z z' : Int} {sn : List AV} (hk : L.lk g = some r) (hs : s.get g = some (zcell z :: sn)) :
    Rel W0 L0 L e (s.upd g (zcell z' :: sn)) (w.putObj r.l (.loop (r.at z'))) a := by
  obtain ⟨hown, hheap, hsn⟩ := loop_at hr hk hs
  have hg : g ≠ 0 := fun h => by have := (hr.lkb g r (by rw [← hr.lke]; exact hk)).1; omega
  have hk0 : L0.lk g = some r := by rw [← hr.lke]; exact hk
  have hoth : ∀ b, b ≠ r.l → (w.putObj r.l (.loop (r.at z'))).heap[b]? = w.heap[b]? := fun b hb => World.putObj_heap_other hb
  have hthis : (w.putObj r.l (.loop (r.at z'))).heap[r.l]? = some (.loop (r.at z')) := World.putObj_heap_same (lt_of_heap hheap)
  have hsz : (w.putObj r.l (.loop (r.at z'))).heap.size = w.heap.size := by simp [World.putObj]
  generalize hW : w.putObj r.l (.loop (r.at z')) = w' at *
  have h1 : ∀ (b : Nat) (c : Array Value) (t : TypeId) (f : Nat × Nat), w.heap[b]? = some (.cells c t f) → w'.heap[b]? = some (.cells c t f) := fun b c t f hb => by
    rw [hoth b (fun h => by rw [h, hheap] at hb; cases hb)]; exact hb
  have h1m : ∀ (b : Nat) (c : Array MapEntry) (t : Nat), w.heap[b]? = some (.map c t) → w'.heap[b]? = some (.map c t) := fun b c t hb => by
    rw [hoth b (fun h => by rw [h, hheap] at hb; cases hb)]; exact hb
  have h1i : ∀ (b : Nat) (m : Option Nat) (si : Nat) (se : Array Nat) (c0 : Nat), w.heap[b]? = some (.mapIter m si se c0) → w'.heap[b]? = some (.mapIter m si se c0) := fun b m si se c0 hb => by
    rw [hoth b (fun h => by rw [h, hheap] at hb; cases hb)]; exact hb
  have h2 : ∀ b : Nat, L.own b = none → b < w.heap.size → w'.heap[b]? = w.heap[b]? := fun b hb _ => hoth b fun h => by rw [h, hown] at hb; cases hb
  have hall := fun xs us => AReps.shut h1 h2 xs us
  exact
    { slots := hall _ _ hr.slots
      hid := hr.hid
      rd := hr.rd
      mks := ⟨hr.mks.1, fun q hq => ⟨(hoth q fun h => by have := (hr.mks.2 q hq).1; rw [h, hheap] at this; cases this).trans (hr.mks.2 q hq).1, (hr.mks.2 q hq).2⟩⟩
      mkb := hr.mkb
      kept := fun b o hb => by
        obtain ⟨⟨o', q1, q2⟩, q3⟩ := hr.kept b o hb
        refine ⟨?_, q3⟩
        by_cases hbl : b = r.l
        · subst hbl
          rw [hheap] at q1
          cases q1
          refine ⟨_, hthis, ?_⟩
          cases o <;> first | exact ⟨_, rfl⟩ | (cases (show _ = _ from q2))
        · exact ⟨o', (hoth b hbl).trans q1, q2⟩
      rdk := hr.rdk
      lke := hr.lke
      lkb := by rw [hsz]; exact hr.lkb
      lki := hr.lki
      objs := fun h c hc => by
        rw [Sto.get_upd] at hc
        by_cases hgh : g = h
        · subst hgh
          rw [if_pos rfl, hs] at hc
          simp at hc; subst hc
          refine ⟨fun h0 => absurd h0 hg, fun _ => ⟨.int .i64 z' :: r.tm.toList, ?_, ⟨_, _, rfl, rfl, hall _ _ hsn⟩⟩⟩
          unfold Held; rw [hk]
          exact ⟨hown, z', hthis, rfl⟩
        · rw [if_neg hgh] at hc
          refine ⟨fun h0 => hall _ _ ((hr.objs h c hc).1 h0), fun h0 => ?_⟩
          obtain ⟨vs, q1, q2⟩ := (hr.objs h c hc).2 h0
          refine ⟨vs, ?_, hall _ _ q2⟩
          unfold Held at q1 ⊢
          split at q1
          · rcases q1 with q1 | q1
            rotate_left
            · exact .inr q1
            left
            obtain ⟨k0, ⟨k3, c', t, k1, k2⟩ | ⟨k3, ⟨c', t, k1, k5, k2⟩ | ⟨mm, si, se, c0, k1, k5, k2⟩⟩ | ⟨k3, c', t, k1, k5, k6, k2⟩⟩ := q1
            · exact ⟨k0, .inl ⟨k3, c', t, h1 _ _ _ _ k1, k2⟩⟩
            · exact ⟨k0, .inr (.inl ⟨k3, .inl ⟨c', t, h1m _ _ _ k1, k5, k2⟩⟩)⟩
            · exact ⟨k0, .inr (.inl ⟨k3, .inr ⟨mm, si, se, c0, h1i _ _ _ _ _ k1, k5, k2⟩⟩)⟩
            · refine ⟨k0, .inr (.inr ⟨k3, c', t, h1m _ _ _ k1, k5, ⟨fun x hx => ?_, k6.2⟩, k2.trans ?_⟩)⟩
              · obtain ⟨b, c, t, p1, p2, p3⟩ := k6.1 x hx
                exact ⟨b, c, t, p1, h1 _ _ _ _ p2, p3⟩
              · unfold boxVs
                refine List.map_congr_left fun x hx => ?_
                obtain ⟨b, c, t, p1, p2, p3⟩ := k6.1 x hx
                rw [p1]
                simp only [boxC, p2, h1 _ _ _ _ p2]
          · rename_i r' hk'
            obtain ⟨k0, z2, k1, k2⟩ := q1
            refine ⟨k0, z2, (hoth _ fun hl => hgh ?_).trans k1, k2⟩
            exact (hr.lki h g r' r (by rw [← hr.lke]; exact hk') hk0 hl).symm
      old := fun b hb h0 => ⟨(hr.old b hb h0).1, (hoth b fun h => by have := (hr.lkb g r hk0).2.1; omega).trans (hr.old b hb h0).2⟩
      size := by rw [hsz]; exact hr.size
      own_lt := fun b g' hb => by rw [hsz]; exact hr.own_lt b g' hb
      os := by rw [← hW]; exact hr.os
      tape := by rw [← hW]; exact hr.tape
      output := by rw [← hW]; exact hr.output }

def Lay.loop (L : Lay) (G : Nat) (r : LoopS) : Lay := { L with lk := fun g => if g = G then some r else L.lk g }
theorem marks_lt' {W0 : World} {L0 L : Lay} {e : List AV} {s : Sto} {w : World} {a : Act} (hr : Rel W0 L0 L e s w a) {q : Nat} (h : q ∈ marks a.defers) : q < w.heap.size := lt_of_heap (hr.mks.2 q h).1

theorem rel_enter {W0 : World} {L0 L : Lay} {e : List AV} {s : Sto} {w w' : World} {a : Act} {G : Nat} {r : LoopS} {ms : List Deferred} (hr : Rel W0 L0 L e s w a) (hG : 1000000000 ≤ G ∧ G < 2000000000) (hm : AV.mens G e = false) (hs : s.mens G = false) (hg : s.get G = none)
    (hb : Below w.heap.size w w') (hl1 : w.heap.size ≤ r.l) (hl2 : w'.heap[r.l]? = some (.loop (r.at 0))) (htm : r.tm = a.tmps) (hms : strip ms = []) (hmn : (marks ms).Nodup) (hmm : ∀ q ∈ marks ms, w.heap.size ≤ q ∧ w'.heap[q]? = some (.deferred (some []))) :
    ∃ L', Rel W0 (L0.loop G r) L' e (s.ins G (zcell 0 :: e)) w' { a with defers := ms ++ a.defers } ∧ L'.lk G = some r := by
  have hG0 : G ≠ 0 := by omega
  let L' : Lay := { L with own := fun b => if w.heap.size ≤ b ∧ b < w'.heap.size then some 0 else L.own b, lk := fun g => if g = G then some r else L.lk g }
  have hheap : ∀ b, b < w.heap.size → w'.heap[b]? = w.heap[b]? := fun b hlt => hb.block b hlt
  have hown : ∀ b, b < w.heap.size → L'.own b = L.own b := fun b hlt => by simp only [L']; rw [if_neg (by omega)]
  have hnew : ∀ b, w.heap.size ≤ b → b < w'.heap.size → L'.own b = some 0 := fun b h1 h2 => by simp only [L']; rw [if_pos ⟨h1, h2⟩]
  have hsame : Same G L w L' w' := ⟨fun b hlt _ => ⟨hheap b hlt, hown b hlt⟩, fun _ _ => rfl, fun _ _ => rfl, rfl, fun g hg => by simp [L', hg]⟩
  have hlt := lt_of_heap hl2
  refine ⟨L', ?_, by simp [L']⟩
  exact
    { slots := AReps.same hsame _ _ hm hr.slots
      hid := by obtain ⟨vs, e1, e2⟩ := hr.hid; exact ⟨vs, e1, by rw [← e2]; simp only [strip, List.filter_append] at hms ⊢; rw [hms]; rfl⟩
      rd := hr.rd
      mks := by
        rw [marks_app]
        refine ⟨List.nodup_append.2 ⟨hmn, hr.mks.1, fun x hx y hy hxy => ?_⟩, fun q hq => ?_⟩
        · have := (hmm x hx).1; have := marks_lt' hr hy; omega
        · rcases List.mem_append.1 hq with h | h
          · exact ⟨(hmm q h).2, hnew q (hmm q h).1 (lt_of_heap (hmm q h).2)⟩
          · have hlt := marks_lt' hr h
            exact ⟨(hheap q hlt).trans (hr.mks.2 q h).1, (hown q hlt).trans (hr.mks.2 q h).2⟩
      mkb := fun q hq => by
        rw [marks_app] at hq
        rcases List.mem_append.1 hq with h | h
        · refine ⟨Nat.le_trans hr.size (hmm q h).1, fun o ho => ?_⟩
          obtain ⟨⟨o', h1, _⟩, _⟩ := hr.kept q o ho
          have := lt_of_heap h1; have := (hmm q h).1; omega
        · exact hr.mkb q h
      kept := fun b o ho => by
        obtain ⟨⟨o', h1, h3⟩, h2⟩ := hr.kept b o ho
        have hlt := lt_of_heap h1
        exact ⟨⟨o', (hheap b hlt).trans h1, h3⟩, (hown b hlt).trans h2⟩
      rdk := hr.rdk
      lke := by simp only [L', Lay.loop]; rw [hr.lke]
      lkb := fun g r' h => by
        simp only [Lay.loop] at h
        split at h
        · rename_i e1; cases h; exact ⟨by omega, Nat.le_trans hr.size hl1, hlt⟩
        · have := hr.lkb g r' h; exact ⟨this.1, this.2.1, Nat.lt_of_lt_of_le this.2.2 hb.size⟩
      lki := fun g g' r1 r2 h1 h2 hl => by
        simp only [Lay.loop] at h1 h2
        split at h1 <;> split at h2
        · rename_i e1 e2; rw [e1, e2]
        · cases h1; have := (hr.lkb g' r2 h2).2.2; omega
        · cases h2; have := (hr.lkb g r1 h1).2.2; omega
        · exact hr.lki g g' r1 r2 h1 h2 hl
      objs := fun h c hc => by
        rw [Sto.get_ins hg] at hc
        split at hc
        · rename_i e1; subst e1
          simp at hc; subst hc
          refine ⟨fun h0 => absurd h0 hG0, fun _ => ⟨.int .i64 0 :: r.tm.toList, ?_, ⟨_, _, rfl, rfl, by rw [htm]; exact AReps.same hsame _ _ hm hr.slots⟩⟩⟩
          unfold Held; rw [show L'.lk G = some r by simp [L']]
          exact ⟨hnew _ hl1 hlt, 0, hl2, rfl⟩
        · rename_i hne
          exact ObjRep.same hsame (fun e => hne e.symm) hG0 (Sto.mens_get hs hc) (hr.objs h c hc)
      old := fun b hlt0 h0 => by
        have h1 := hr.old b hlt0 h0
        have hlt := Nat.lt_of_lt_of_le hlt0 hr.size
        exact ⟨(hown b hlt).trans h1.1, (hheap b hlt).trans h1.2⟩
      size := Nat.le_trans hr.size hb.size
      own_lt := fun b g h => by
        by_cases hlt : b < w.heap.size
        · exact Nat.lt_of_lt_of_le hlt hb.size
        · by_cases hlt' : b < w'.heap.size
          · exact hlt'
          · simp only [L'] at h; rw [if_neg (by omega)] at h; exact absurd (hr.own_lt b g h) hlt
      os := hb.os.trans hr.os
      tape := hb.tape.trans hr.tape
      output := hb.output.trans hr.output }

theorem rel_leave {W0 : World} {L0 L : Lay} {e : List AV} {s : Sto} {w : World} {a : Act} {G : Nat} {r : LoopS} {z : Int} {sn : List AV} (hr : Rel W0 (L0.loop G r) L e s w a) (hs : s.get G = some (zcell z :: sn)) (x : Loop)
    (hb0 : ∀ g r, L0.lk g = some r → (1000000000 ≤ g ∧ g < 2000000000) ∧ W0.heap.size ≤ r.l ∧ r.l < w.heap.size) (hi0 : ∀ g g' r r', L0.lk g = some r → L0.lk g' = some r' → r.l = r'.l → g = g') :
    Rel W0 L0 { L with lk := L0.lk } (e.map (AV.kill G)) (s.kill G) (w.putObj r.l (.loop x)) a := by
  have hkG : (L0.loop G r).lk G = some r := by simp [Lay.loop]
  have hk : L.lk G = some r := by rw [hr.lke]; exact hkG
  have hG0 : G ≠ 0 := fun h => by have := (hr.lkb G r hkG).1; omega
  obtain ⟨hown, hheap, hsn⟩ := loop_at hr hk hs
  have hr' := hr.kill G
  have hoth : ∀ b, b ≠ r.l → (w.putObj r.l (.loop x)).heap[b]? = w.heap[b]? := fun b hb => World.putObj_heap_other hb
  have hthis : (w.putObj r.l (.loop x)).heap[r.l]? = some (.loop x) := World.putObj_heap_same (lt_of_heap hheap)
  have hsz : (w.putObj r.l (.loop x)).heap.size = w.heap.size := by simp [World.putObj]
  generalize hW : w.putObj r.l (.loop x) = w' at *
  have hlk : ∀ g, g ≠ G → L0.lk g = L.lk g := fun g hg => by rw [hr.lke]; simp [Lay.loop, hg]
  have hsame : Same G L w { L with lk := L0.lk } w := ⟨fun _ _ _ => ⟨rfl, rfl⟩, fun _ _ => rfl, fun _ _ => rfl, rfl, hlk⟩
  have h1 : ∀ (b : Nat) (c : Array Value) (t : TypeId) (f : Nat × Nat), w.heap[b]? = some (.cells c t f) → w'.heap[b]? = some (.cells c t f) := fun b c t f hb => by
    rw [hoth b (fun h => by rw [h, hheap] at hb; cases hb)]; exact hb
  have h1m : ∀ (b : Nat) (c : Array MapEntry) (t : Nat), w.heap[b]? = some (.map c t) → w'.heap[b]? = some (.map c t) := fun b c t hb => by
    rw [hoth b (fun h => by rw [h, hheap] at hb; cases hb)]; exact hb
  have h1i : ∀ (b : Nat) (m : Option Nat) (si : Nat) (se : Array Nat) (c0 : Nat), w.heap[b]? = some (.mapIter m si se c0) → w'.heap[b]? = some (.mapIter m si se c0) := fun b m si se c0 hb => by
    rw [hoth b (fun h => by rw [h, hheap] at hb; cases hb)]; exact hb
  have h2 : ∀ b : Nat, ({ L with lk := L0.lk } : Lay).own b = none → b < w.heap.size → w'.heap[b]? = w.heap[b]? := fun b hb _ => hoth b fun h => by rw [h] at hb; exact absurd (hown.symm.trans hb) (by simp)
  have hall : ∀ (xs : List AV) (us : List Value), AV.mens G xs = false → AReps L w xs us → AReps { L with lk := L0.lk } w' xs us := fun xs us hm h => AReps.shut h1 h2 _ _ (AReps.same hsame _ _ hm h)
  exact
    { slots := hall _ _ (mens_kill G e) hr'.slots
      hid := hr'.hid
      rd := hr.rd
      mks := ⟨hr.mks.1, fun q hq => ⟨(hoth q fun h => by have := (hr.mks.2 q hq).1; rw [h, hheap] at this; cases this).trans (hr.mks.2 q hq).1, (hr.mks.2 q hq).2⟩⟩
      mkb := hr.mkb
      kept := fun b o hb => by
        obtain ⟨⟨o', q1, q2⟩, q3⟩ := hr.kept b o hb
        refine ⟨?_, q3⟩
        by_cases hbl : b = r.l
        · subst hbl
          rw [hheap] at q1
          cases q1
          refine ⟨_, hthis, ?_⟩
          cases o <;> first | exact ⟨_, rfl⟩ | (cases (show _ = _ from q2))
        · exact ⟨o', (hoth b hbl).trans q1, q2⟩
      rdk := hr.rdk
      lke := rfl
      lkb := by rw [hsz]; exact hb0
      lki := hi0
      objs := fun h c hc => by
        have hne : h ≠ G := fun e => by rw [e, Sto.kill_none] at hc; cases hc
        have hmc := Sto.mens_get (Sto.mens_killed G s) hc
        refine ⟨fun h0 => hall _ _ hmc ((hr'.objs h c hc).1 h0), fun h0 => ?_⟩
        obtain ⟨vs, q1, q2⟩ := (hr'.objs h c hc).2 h0
        refine ⟨vs, ?_, hall _ _ hmc q2⟩
        unfold Held at q1 ⊢
        rw [show ({ L with lk := L0.lk } : Lay).lk h = L.lk h from hlk h hne]
        split at q1
        · rename_i hk'
          rcases q1 with q1 | q1
          rotate_left
          · exact .inr q1
          left
          obtain ⟨k0, ⟨k3, c', t, k1, k2⟩ | ⟨k3, ⟨c', t, k1, k5, k2⟩ | ⟨mm, si, se, c0, k1, k5, k2⟩⟩ | ⟨k3, c', t, k1, k5, k6, k2⟩⟩ := q1
          · exact ⟨k0, .inl ⟨k3, c', t, h1 _ _ _ _ k1, k2⟩⟩
          · exact ⟨k0, .inr (.inl ⟨k3, .inl ⟨c', t, h1m _ _ _ k1, k5, k2⟩⟩)⟩
          · exact ⟨k0, .inr (.inl ⟨k3, .inr ⟨mm, si, se, c0, h1i _ _ _ _ _ k1, k5, k2⟩⟩)⟩
          · refine ⟨k0, .inr (.inr ⟨k3, c', t, h1m _ _ _ k1, k5, ⟨fun x hx => ?_, k6.2⟩, k2.trans ?_⟩)⟩
            · obtain ⟨b, c, t, p1, p2, p3⟩ := k6.1 x hx
              exact ⟨b, c, t, p1, h1 _ _ _ _ p2, p3⟩
            · unfold boxVs
              refine List.map_congr_left fun x hx => ?_
              obtain ⟨b, c, t, p1, p2, p3⟩ := k6.1 x hx
              rw [p1]
              simp only [boxC, p2, h1 _ _ _ _ p2]
        · rename_i r' hk'
          obtain ⟨k0, z2, k1, k2⟩ := q1
          refine ⟨k0, z2, (hoth _ fun hl => hne ?_).trans k1, k2⟩
          exact hr.lki h G r' r (by rw [← hr.lke]; exact hk') hkG hl
      old := fun b hb h0 => ⟨(hr.old b hb h0).1, (hoth b fun h => by have := (hr.lkb G r hkG).2.1; omega).trans (hr.old b hb h0).2⟩
      size := by rw [hsz]; exact hr.size
      own_lt := fun b g' hb => by rw [hsz]; exact hr.own_lt b g' hb
      os := by rw [← hW]; exact hr.os
      tape := by rw [← hW]; exact hr.tape
      output := by rw [← hW]; exact hr.output }

theorem target_rep {P : Program} {L : Lay} {w : World} {X : AV} {args as : List AV} {g : Nat} {u : Value} {vs : Array Value} (h : target P X args = some (g, as)) (hX : ARep L w X u) (hargs : AReps L w args vs.toList) :
    ∃ x y : Array Value, u = .func (.func g) x y ∧ AReps L w as (x ++ vs ++ y).toList := by
  unfold target at h
  split at h
  · simp at h; obtain ⟨rfl, rfl⟩ := h
    rename_i x y
    exact ⟨x, y, hX, by simp only [Array.toList_append]; simpa using areps_append (areps_append (areps_vals x.toList) hargs) (areps_vals y.toList)⟩
  · simp at h; obtain ⟨rfl, rfl⟩ := h
    obtain ⟨xs, ys, hf, k1, k2⟩ := hX
    exact ⟨xs, ys, hf, by simp only [Array.toList_append]; simpa using areps_append (areps_append (areps_d k1) hargs) (areps_d k2)⟩
  · simp at h; obtain ⟨rfl, rfl⟩ := h
    obtain ⟨xs, ys, hf, k1, k2⟩ := hX
    exact ⟨xs, ys, hf, by simp only [Array.toList_append]; simpa using areps_append (areps_append k1 hargs) k2⟩
  · cases h

def jumpK (z : Int) (Q : Exit → List AV → Sto → Prop) (e : List AV) (s : Sto) : Prop :=
  if z = 0 then Q .normal e s else if z = -1 then Q .ret e s else if 2 ≤ z then Q (.exit (z - 2).toNat) e s else if z ≤ -2 then Q (.goto (-z - 2).toNat) e s else False
def rngK (G : Nat) (Q : Exit → List AV → Sto → Prop) (e : List AV) (s : Sto) : Prop :=
  match s.get G with
  | some (.d (.v (.int .i64 z)) :: _) => jumpK z Q (e.map (AV.kill G)) (s.kill G)
  | _ => False
def rngX (G : Nat) (Q : Exit → List AV → Sto → Prop) : Exit → List AV → Sto → Prop
  | .panic c, e, s => (match s.get G with
    | some (.d (.v (.int .i64 _)) :: _) => Q (.panic c) (e.map (AV.kill G)) (s.kill G)
    | _ => False)
  | _, _, _ => False
def rngP (P : Program) (C : CT) (G : Nat) (f : Operand) (ps : Array Nat) (as bd : Code) (Q : Exit → List AV → Sto → Prop) (e : List AV) (s : Sto) : Prop :=
  ((1000000000 ≤ G ∧ G < 2000000000) ∧ AV.mens G e = false ∧ s.mens G = false ∧ s.get G = none) ∧ pcallo C (target P (aval e f) [.yld G ps.toList as bd P.funcs.size]) (fun _ e' s' => rngK G Q e' s') (fun _ _ _ => False) e (s.ins G (zcell 0 :: e))
def rngPX (P : Program) (C : CT) (G : Nat) (f : Operand) (ps : Array Nat) (as bd : Code) (Q : Exit → List AV → Sto → Prop) (e : List AV) (s : Sto) : Prop :=
  ((1000000000 ≤ G ∧ G < 2000000000) ∧ AV.mens G e = false ∧ s.mens G = false ∧ s.get G = none) ∧ pcallo C (target P (aval e f) [.yld G ps.toList as bd P.funcs.size]) (fun _ e' s' => rngK G Q e' s') (rngX G Q) e (s.ins G (zcell 0 :: e))

theorem enter_run {P : Program} {W0 : World} {L0 L : Lay} {e : List AV} {s : Sto} {w : World} {a : Act} (hr : Rel W0 L0 L e s w a) (fn : Nat) (ps : Array Nat) (as bd : Code) :
    ∃ (r : LoopS) (ms : List Deferred) (w1 : World), (Instr.enterLoop fn a.tmps ps as bd L0.ro).run P w = .ok (r.l, ms) w1 ∧ Below w.heap.size w w1 ∧ w.heap.size ≤ r.l ∧ w1.heap[r.l]? = some (.loop (r.at 0)) ∧ r.tm = a.tmps ∧ r.params = ps ∧ r.assign = as ∧ r.body = bd ∧ r.fn = fn ∧ strip ms = [] ∧ (marks ms).Nodup ∧ ∀ q ∈ marks ms, w.heap.size ≤ q ∧ w1.heap[q]? = some (.deferred (some [])) := by
  cases hrd : L0.rd with
  | none =>
    refine ⟨⟨w.heap.size + 1, fn, ps, as, bd, w.heap.size, a.tmps⟩, _, _, by rw [show L0.ro = none from hrd]; exact run_enterLoop_outer fn a.tmps ps as bd, ?_, by simp, ?_, rfl, rfl, rfl, rfl, rfl, by simp [strip, isMark], by simp [marks, markOf], ?_⟩
    · exact ((Below.refl _ w).alloc (Nat.le_refl _) _).alloc (by simp) _
    · have := heap_alloc_new (w.alloc (.deferred (some []))) (.loop (LoopS.at ⟨w.heap.size + 1, fn, ps, as, bd, w.heap.size, a.tmps⟩ 0))
      rw [World.size_alloc] at this
      exact this
    · intro q hq
      simp [marks, markOf] at hq
      subst hq
      exact ⟨Nat.le_refl _, (RowKit.Below.heap_alloc (w.alloc (.deferred (some []))) _ w.heap.size (by simp)).trans (heap_alloc_new w _)⟩
  | some l0 =>
    obtain ⟨r0, hkp⟩ := hr.rdk l0 hrd
    obtain ⟨⟨o', h1, r1, rfl⟩, _⟩ := hr.kept l0 _ hkp
    refine ⟨⟨w.heap.size, fn, ps, as, bd, r1.defers, a.tmps⟩, _, _, by rw [show L0.ro = some l0 from hrd]; exact run_enterLoop_inner h1 fn a.tmps ps as bd, ?_, by simp, ?_, rfl, rfl, rfl, rfl, rfl, by simp [strip], by simp [marks], by simp [marks]⟩
    · exact (Below.refl _ w).alloc (Nat.le_refl _) _
    · exact heap_alloc_new w _

theorem not_busy {r : LoopS} {z : Int} {Q : Exit → List AV → Sto → Prop} {e : List AV} {s : Sto} (h : jumpK z Q e s) : (r.at z).state ≠ .busy := by
  show (lstate z).1 ≠ .busy
  unfold jumpK at h
  unfold lstate
  by_cases h0 : z = 0
  · rw [if_pos h0]; simp
  · rw [if_neg h0] at h ⊢
    by_cases h1 : z = 1
    · subst h1
      rw [if_neg (by decide), if_neg (by decide), if_neg (by decide)] at h
      exact h.elim
    · rw [if_neg h1]
      by_cases h2 : z = -1
      · rw [if_pos h2]; simp
      · rw [if_neg h2]
        by_cases h3 : 2 ≤ z
        · rw [if_pos h3]; simp
        · rw [if_neg h3]; simp
theorem jump_sound {P : Program} {W0 : World} {L0 L : Lay} {e : List AV} {s : Sto} {w : World} {a : Act} {r : LoopS} {z : Int} {Q : Exit → List AV → Sto → Prop} (hr : Rel W0 L0 L e s w a) (h : jumpK z Q e s) :
    match (r.at z).pending with | none => lift W0 L0 Q .normal a w | some c => wpX L0.ro P c (lift W0 L0 Q) a w := by
  show match (lstate z).2 with | none => _ | some c => _
  unfold jumpK at h
  unfold lstate
  by_cases h0 : z = 0
  · rw [if_pos h0] at h ⊢; exact ⟨L, e, s, hr, h⟩
  · rw [if_neg h0] at h ⊢
    by_cases h2 : z = -1
    · rw [if_pos h2] at h
      rw [if_neg (by omega), if_pos h2]
      exact wpX_of (wpIn_ret ⟨L, e, s, hr, h⟩)
    · rw [if_neg h2] at h
      by_cases h3 : 2 ≤ z
      · rw [if_pos h3] at h
        rw [if_neg (by omega), if_neg h2, if_pos h3]
        exact wpX_of (wpIn_exit ⟨L, e, s, hr, h⟩)
      · rw [if_neg h3] at h
        by_cases h4 : z ≤ -2
        · rw [if_pos h4] at h
          rw [if_neg (by omega), if_neg h2, if_neg h3]
          exact wpX_of (wpIn_goto ⟨L, e, s, hr, h⟩)
        · rw [if_neg h4] at h; exact h.elim
theorem rng_end {P : Program} {W0 : World} {L0 L L2 : Lay} {e e2 : List AV} {s s2 : Sto} {w w2 : World} {a a2 : Act} {G : Nat} {r : LoopS} {Q : Exit → List AV → Sto → Prop} (hr : Rel W0 L0 L e s w a) (hl1 : w.heap.size ≤ r.l) (hr2 : Rel W0 (L0.loop G r) L2 e2 s2 w2 a2) (hq : rngK G Q e2 s2) :
    ∃ jump w4, (Instr.endLoop r.l).run P w2 = .ok jump w4 ∧ (match jump with | none => lift W0 L0 Q .normal a2 w4 | some c => wpX L0.ro P c (lift W0 L0 Q) a2 w4) := by
  unfold rngK at hq
  split at hq
  case h_2 => exact hq.elim
  rename_i z sn hs2
  have hkG : (L0.loop G r).lk G = some r := by simp [Lay.loop]
  have hk2 : L2.lk G = some r := by rw [hr2.lke]; exact hkG
  have hat := loop_at (z := z) hr2 hk2 hs2
  have hsz : w.heap.size ≤ w2.heap.size := by have := (hr2.lkb G r hkG).2.2; omega
  refine ⟨_, _, run_endLoop hat.2.1 (not_busy hq), ?_⟩
  exact jump_sound (r := r) (rel_leave (z := z) hr2 hs2 _ (fun g r1 h => ⟨(hr.lkb g r1 h).1, (hr.lkb g r1 h).2.1, Nat.lt_of_lt_of_le (hr.lkb g r1 h).2.2 hsz⟩) hr.lki) hq

def psem (P : Program) (c : Code) (Q : Exit → List AV → Sto → Prop) (e : List AV) (s : Sto) : Prop :=
  ∀ W0 L0 L w a, Rel W0 L0 L e s w a → wpX L0.ro P c (lift W0 L0 Q) a w
theorem putObj_self {w : World} {l : Nat} {o : Obj} (h : w.heap[l]? = some o) : w.putObj l o = w := by
  obtain ⟨h1, h2⟩ := Array.getElem?_eq_some_iff.1 h
  have : w.heap.setIfInBounds l o = w.heap := by
    apply Array.ext_getElem?
    intro i
    by_cases hi : l = i
    · subst hi; rw [Array.getElem?_setIfInBounds_self_of_lt h1, h]
    · rw [Array.getElem?_setIfInBounds_ne hi]
  simp only [World.putObj, this]
theorem rng_soundX {P : Program} {C : CT} (hC : C.okf P) {G : Nat} {f : Operand} {ps : Array Nat} {as bd : Code} {Q : Exit → List AV → Sto → Prop} {e : List AV} {s : Sto} (hG : 1000000000 ≤ G ∧ G < 2000000000) (hme : AV.mens G e = false) (hms : s.mens G = false) (hsg : s.get G = none)
    {QQ : Exit → List AV → Sto → Prop} (hQQ : ∀ c e s, QQ (.panic c) e s → rngX G Q (.panic c) e s) (h : pcallo C (target P (aval e f) [.yld G ps.toList as bd P.funcs.size]) (fun _ e' s' => rngK G Q e' s') QQ e (s.ins G (zcell 0 :: e))) : psem P (.rangeFunc f ps as bd) Q e s := fun W0 L0 L w a hr => by
  unfold pcallo at h
  split at h
  case h_2 => exact h.elim
  rename_i g as' ht
  refine wpX_rangeFunc fun fn hfn => ?_
  obtain ⟨r, ms, w1, hrun, hbl, hl1, hl2, htm, hps, has, hbd, hrf, hms', hmn, hmm⟩ := enter_run (P := P) hr fn ps as bd
  obtain ⟨L', hr1, hk⟩ := rel_enter hr hG hme hms hsg hbl hl1 hl2 htm hms' hmn hmm
  have hX := aval_rep hr1.slots f
  have hY : ARep L' w1 (.yld G ps.toList as bd P.funcs.size) (.func (.yield r.l) #[] #[]) := ⟨r, hk, rfl, by rw [hps], has, hbd, by rw [hrf]; exact hfn⟩
  have hev : ({ a with defers := ms ++ a.defers } : Act).eval f = a.eval f := by cases f <;> rfl
  rw [hev] at hX
  obtain ⟨xs, ys, hu, hargs⟩ := target_rep (vs := #[.func (.yield r.l) #[] #[]]) ht hX ⟨_, _, rfl, hY, rfl⟩
  obtain ⟨hcal, hcall⟩ := hC _ _ _ _ _ _ h
  have hc := (hcall W0 (L0.loop G r) L' w1 _ _ hr1 hargs).mono (R' := rangePostX L0.ro P r.l (lift W0 L0 Q) { a with defers := ms ++ a.defers }) fun en w2 hen => by
    cases en with
    | returned v =>
      obtain ⟨L2, e2, s2, rv, hr2, _, hq⟩ := hen
      exact rng_end hr hl1 hr2 hq
    | panicked c =>
      obtain ⟨L2, e2, s2, hr2, hq⟩ := hen
      have hq := hQQ c e2 s2 hq
      unfold rngX at hq
      simp only at hq
      split at hq
      case h_2 => exact hq.elim
      rename_i z sn hs2
      have hkG : (L0.loop G r).lk G = some r := by simp [Lay.loop]
      have hk2 : L2.lk G = some r := by rw [hr2.lke]; exact hkG
      have hat := loop_at (z := z) hr2 hk2 hs2
      have hsz : w.heap.size ≤ w2.heap.size := by have := (hr2.lkb G r hkG).2.2; omega
      have h3 := rel_leave (z := z) hr2 hs2 (r.at z) (fun g r1 h => ⟨(hr.lkb g r1 h).1, (hr.lkb g r1 h).2.1, Nat.lt_of_lt_of_le (hr.lkb g r1 h).2.2 hsz⟩) hr.lki
      rw [putObj_self hat.2.1] at h3
      exact ⟨_, _, _, h3, hq⟩
    | outgrown => exact hen.elim
  have hres : (resolve a.eval (rangeCall f r.l) 0).run P w1 = .ok { target := .fn (.func g) ys, args := xs ++ #[.func (.yield r.l) #[] #[]] } w1 := by
    unfold resolve rangeCall
    simp only [hu, Deferred.ofValue, Sem.run_pure]
    simp [Act.eval]
  have hinv : (invoke (.fn (.func g) ys) (xs ++ #[.func (.yield r.l) #[] #[]])).run P w1 = .ok (.enter g (xs ++ #[.func (.yield r.l) #[] #[]] ++ ys)) w1 := by
    simp only [invoke]; exact callable_run hcal _ _
  exact ⟨r.l, ms, w1, _, g, _, hrun, hres, hinv, hc⟩
theorem rng_sound {P : Program} {C : CT} (hC : C.okf P) {G : Nat} {f : Operand} {ps : Array Nat} {as bd : Code} {Q : Exit → List AV → Sto → Prop} {e : List AV} {s : Sto} (h : rngP P C G f ps as bd Q e s) : psem P (.rangeFunc f ps as bd) Q e s :=
  let ⟨⟨hG, hme, hms, hsg⟩, h⟩ := h
  rng_soundX hC hG hme hms hsg (fun _ _ _ h => h.elim) h
theorem rng_soundP {P : Program} {C : CT} (hC : C.okf P) {G : Nat} {f : Operand} {ps : Array Nat} {as bd : Code} {Q : Exit → List AV → Sto → Prop} {e : List AV} {s : Sto} (h : rngPX P C G f ps as bd Q e s) : psem P (.rangeFunc f ps as bd) Q e s :=
  let ⟨⟨hG, hme, hms, hsg⟩, h⟩ := h
  rng_soundX hC hG hme hms hsg (fun _ _ _ h => h) h
end Go.E

namespace Go.E
open Go

def gv (ops : List Oper) (e : List AV) (j : Nat) : AV := match (ops[j]?).bind (·.dst) with | some d => e.getD d .any | none => .any
def AV.gd : AV → Option (Option Bool)
  | .d (.v (.bool b)) => some (some b)
  | .d (.v (.tuple ⟨[]⟩)) => some none
  | _ => none
def pguard (c p q : Prop) : Prop := (c → p) ∧ (¬ c → q)

def pops (P : Program) (C : CT) (tb : Nat) (ops : List Oper) : List Oper → (Exit → List AV → Sto → Prop) → List AV → Sto → Prop
  | [], Q, e, s => Q .normal e s
  | o :: rest, Q, e, s =>
    match o.guard with
    | none => pop P C tb o (pops P C tb ops rest Q) Q e s
    | some (j, want) => match (gv ops e j).gd with
      | some z => (match k0 o.op with
       | true => gif (z == some want) (ps P s [] o.op (aval e)) True ∧ pops P C tb ops rest Q (eset e o.dst (gif (z == some want) (pv P s o.op (aval e)) .no)) s
       | false => pguard (z = some want) (pop P C tb o (pops P C tb ops rest Q) Q e s) (pops P C tb ops rest Q (eset e o.dst .no) s))
      | none => False

theorem AV.gd_rep {L : Lay} {w : World} {x : AV} {u : Value} {z : Option Bool} (h : x.gd = some z) (k : ARep L w x u) : (∃ b, u = .bool b ∧ z = some b) ∨ (u = undef ∧ z = none) := by
  unfold AV.gd at h
  split at h
  · cases h; exact .inl ⟨_, k, rfl⟩
  · cases h; exact .inr ⟨k, rfl⟩
  · cases h
theorem gv_yielded {L : Lay} {w : World} {ops : List Oper} {e : List AV} {a : Act} {j : Nat} {z : Option Bool} (h : (gv ops e j).gd = some z) (hr : AReps L w e a.tmps.toList) : yielded ops.toArray a.tmps j = z := by
  unfold gv at h
  cases hd : (ops[j]?).bind (·.dst) with
  | none => rw [hd] at h; cases h
  | some d =>
    rw [hd] at h
    simp only at h
    cases he : e[d]? with
    | none => simp [List.getD, he, AV.gd] at h
    | some x =>
      obtain ⟨u, hu, hx⟩ := hr.get d x he
      have hg : e.getD d .any = x := by simp [List.getD, he]
      rw [hg] at h
      have hu' : a.tmps[d]? = some u := by simpa using hu
      rcases AV.gd_rep h hx with ⟨b, rfl, rfl⟩ | ⟨rfl, rfl⟩
      · simp [yielded, hd, hu']
      · simp [yielded, hd, hu', undef]

theorem noDef_k0 {o : Oper} (h : k0 o.op = true) : noDef o = true := by
  obtain ⟨dst, op, type, pos, after, guard⟩ := o
  cases op <;> first | rfl | (simp [k0] at h)
theorem rd_none {W0 : World} {L0 L : Lay} {e : List AV} {s : Sto} {w : World} {a : Act} (hr : Rel W0 L0 L e s w a) (h : s.get 0 = some []) : L0.rd = none := by
  have h1 : L.hid = [] := (hr.objs 0 [] h).1 rfl
  obtain ⟨vs, h2, _⟩ := hr.hid
  rw [h1] at h2
  exact hr.rd.resolve_right fun hn => hn (List.append_eq_nil_iff.1 h2.symm).2
def pyld (P : Program) (g : Nat) (ps : List Nat) (as bd : Code) (args : List AV) (K : AV → List AV → Sto → Prop) (Q : Exit → List AV → Sto → Prop) (e : List AV) (s : Sto) : Prop :=
  ∀ (dst : Option Nat) (type : Nat) (pos : String) (after : Array Edge) (guard : Option (Nat × Bool)) (f : Operand) (as' : Array Operand) (ts : Array Nat) W0 L0 L w a, aval e f = .yld g ps as bd P.funcs.size → as'.toList.map (aval e) = args → Rel W0 L0 L e s w a →
    (⟨dst, .call ⟨.value f, as', ts⟩, type, pos, after, guard⟩ : Oper).wpIn (FW L0.ro) 0 P a w (fun a' w' => ∃ L e s r, Rel W0 L0 L (eset e dst r) s w' a' ∧ K r e s) (lift W0 L0 Q)
structure CT.ok (P : Program) (C : CT) : Prop where
  f : C.okf P
  y : ∀ g ps as bd args K Q e s, C.y g ps as bd args K Q e s → pyld P g ps as bd args K Q e s
theorem CT.ok.cut {P : Program} {C : CT} (h : C.ok P) : C.cut.okf P := h.f
theorem ok_of_f {P : Program} {C : CT} (h : C.okf P) (hy : C.noY) : C.ok P := ⟨h, fun _ _ _ _ _ _ _ _ _ k => absurd k (hy _ _ _ _ _ _ _ _ _)⟩
theorem pop_soundIn {P : Program} {C : CT} {tb : Nat} (hC : C.ok P) {W0 : World} {L0 L : Lay} {e : List AV} {s : Sto} {w : World} {a : Act} {K : List AV → Sto → Prop} {Q : Exit → List AV → Sto → Prop} (o : Oper) (h : pop P C tb o K Q e s) (hr : Rel W0 L0 L e s w a) : o.wpIn (FW L0.ro) 0 P a w (After W0 L0 K) (lift W0 L0 Q) := by
  by_cases hv : ∃ f args ts, o.op = .call ⟨.value f, args, ts⟩ ∧ (aval e f).isYld = true
  · obtain ⟨f, args, ts, h1, h2⟩ := hv
    obtain ⟨dst, op, type, pos, after, guard⟩ := o
    simp only at h1
    subst h1
    have h : pcallv P C (aval e f) (args.toList.map (aval e)) (fun r e s => K (eset e dst r) s) Q e s := h
    cases hx : aval e f with
    | yld g ps as bd N =>
      rw [hx] at h
      have h : N = P.funcs.size ∧ C.y g ps as bd (args.toList.map (aval e)) (fun r e s => K (eset e dst r) s) Q e s := h
      obtain ⟨hN, hy⟩ := h
      subst hN
      exact Oper.wpIn_mono (fun a w ⟨L, e, s, r, h1, h2⟩ => ⟨L, _, s, h1, h2⟩) (hC.y _ _ _ _ _ _ _ _ _ hy dst type pos after guard f args ts W0 L0 L w a hx rfl hr)
    | _ => rw [hx] at h2; cases h2
  have hcut := pop_cut (fun f args ts ho => by
    cases hb : (aval e f).isYld with
    | false => rfl
    | true => exact absurd ⟨f, args, ts, ho, hb⟩ hv) h
  refine wpIn_of_wp ?_ (pop_sound hC.cut C.cut_noY o hcut hr)
  by_cases hn : noDef o = true
  · exact .inr hn
  · left
    obtain ⟨dst, op, type, pos, after, guard⟩ := o
    cases op with
    | defer c =>
      obtain ⟨cl, args, ts⟩ := c
      cases cl with
      | value f =>
        simp only [pop] at h
        split at h
        · rename_i hc; rw [h.1] at hc; exact rd_none hr hc
        · exact h.elim
      | builtin b => exact absurd h.1 (by simp [k0])
      | invoke x m => exact absurd h.1 (by simp [k0])
    | _ => exact absurd rfl hn
theorem pops_sound {P : Program} {C : CT} {tb : Nat} (hC : C.ok P) {W0 : World} {L0 : Lay} {ops : List Oper} {Q : Exit → List AV → Sto → Prop} : ∀ (l : List Oper) {L : Lay} {e : List AV} {s : Sto} {w : World} {a : Act}, pops P C tb ops l Q e s → Rel W0 L0 L e s w a →
    wpListIn (FW L0.ro) 0 P ops.toArray (lift W0 L0 Q) l a w
  | [], L, e, s, w, a, h, hr => ⟨L, e, s, hr, h⟩
  | o :: rest, L, e, s, w, a, h, hr => by
    unfold pops at h
    refine wpListIn_step fun K' hK' => ?_
    have hop : pop P C tb o (pops P C tb ops rest Q) Q e s → o.wpIn (FW L0.ro) 0 P a w K' (lift W0 L0 Q) := fun h =>
      Oper.wpIn_mono (fun a w ⟨L, e, s, h1, h2⟩ => hK' a w (pops_sound hC rest h2 h1)) (pop_soundIn hC o h hr)
    split at h
    · rename_i hg
      rw [if_pos (by simp [Region.wanted, hg])]
      exact hop h
    · rename_i j want hg
      split at h
      case h_2 => exact h.elim
      rename_i z hb
      have hy := gv_yielded hb hr.slots
      by_cases hw : z = some want
      · rw [if_pos (by simp [Region.wanted, hg, hy, hw])]
        split at h
        · rename_i hk
          rw [show (z == some want) = true by simp [hw], gif_true, gif_true] at h
          obtain ⟨v, g1, g2⟩ := pv_sound (ρ := a.eval) (L := L) (w := w) (X := []) (fun x => aval_rep hr.slots x) hr.objs hr.lk2 o h.1
          refine wpIn_of_wp (.inr (noDef_k0 hk)) ?_
          unfold Oper.wp; rw [g2 w (fun _ => Keep.refl _ _ _)]
          exact hK' _ _ (pops_sound hC rest h.2 (hr.put o.dst g1))
        · exact hop (h.1 hw)
      · rw [if_neg (by simp [Region.wanted, hg, hy, hw])]
        split at h
        · rw [show (z == some want) = false by simpa using hw, gif_false, gif_false] at h
          exact ⟨fun _ _ => trivial, hK' _ _ (pops_sound hC rest h.2 (hr.put o.dst (x := .no) rfl))⟩
        · exact ⟨fun _ _ => trivial, hK' _ _ (pops_sound hC rest (h.2 hw) (hr.put o.dst (x := .no) rfl))⟩

def Pd (ops : List Oper) (Q : Exit → List AV → Sto → Prop) : Prop := ∀ c e s d, (∃ o ∈ ops, o.dst = some d) → Q (.panic c) e s → Q (.panic c) (e.set d .any) s
def seqK (N : List AV → Sto → Prop) (Q : Exit → List AV → Sto → Prop) : Exit → List AV → Sto → Prop
  | .normal, e, s => N e s
  | x, e, s => Q x e s
def pstep (P : Program) (C : CT) (tb : Nat) (ops : List Oper) (o : Oper) (K : List AV → Sto → Prop) (Q : Exit → List AV → Sto → Prop) (e : List AV) (s : Sto) : Prop :=
  match o.guard with
  | none => pop P C tb o K Q e s
  | some (j, want) => match (gv ops e j).gd with
    | some z => (match k0 o.op with
     | true => gif (z == some want) (ps P s [] o.op (aval e)) True ∧ K (eset e o.dst (gif (z == some want) (pv P s o.op (aval e)) .no)) s
     | false => pguard (z = some want) (pop P C tb o K Q e s) (K (eset e o.dst .no) s))
    | none => False
def pany (P : Program) (C : CT) (tb : Nat) (ops : List Oper) : Sch → (Exit → List AV → Sto → Prop) → List AV → Sto → Prop
  | .done, Q, e, s => Q .normal e s
  | .one i r, Q, e, s => match ops[i]? with | some o => pstep P C tb ops o (pany P C tb ops r Q) Q e s | none => False
  | .alt a b, Q, e, s => pany P C tb ops a Q e s ∧ pany P C tb ops b Q e s

theorem Rel.unput {W0 : World} {L0 L : Lay} {e : List AV} {s : Sto} {w : World} {a : Act} {d : Nat} {v : Value} (hr : Rel W0 L0 L e s w (a.put (some d) v)) : Rel W0 L0 L (e.set d .any) s w a :=
  { hr with
    slots := by
      have h := hr.slots
      have hlen := h.length
      simp only [Act.put, Array.toList_setIfInBounds, List.length_set] at hlen
      refine AReps.of_get (by simpa using hlen) fun i x u h1 h2 => ?_
      by_cases hi : d = i
      · subst hi
        rw [List.getElem?_set_self'] at h1
        cases he : e[d]? with
        | none => simp [he] at h1
        | some y => simp [he] at h1; subst h1; trivial
      · rw [List.getElem?_set_ne hi] at h1
        obtain ⟨u', hu', hx⟩ := h.get i x h1
        simp only [Act.put, Array.toList_setIfInBounds, List.getElem?_set_ne hi] at hu'
        rw [h2] at hu'; cases hu'
        exact hx
    hid := hr.hid, rd := hr.rd, mks := hr.mks, mkb := hr.mkb, kept := hr.kept, rdk := hr.rdk, lke := hr.lke, lkb := hr.lkb, lki := hr.lki }

theorem pop_k0_imp {P : Program} {C : CT} {tb : Nat} {o : Oper} {K : List AV → Sto → Prop} {Q : Exit → List AV → Sto → Prop} {e : List AV} {s : Sto} (hk : k0 o.op = true) (h : pop P C tb o K Q e s) : ps P s [] o.op (aval e) ∧ K (eset e o.dst (pv P s o.op (aval e))) s := by
  obtain ⟨dst, op, type, pos, after, guard⟩ := o
  cases op with
  | call c =>
    obtain ⟨cl, args, ts⟩ := c
    cases cl with
    | builtin b => cases b <;> first | (simp only [k0, k0call, Bool.false_eq_true] at hk; done) | exact h.2
    | value f => simp [k0, k0call] at hk
    | invoke x m => simp [k0, k0call] at hk
  | binOp op t x y t' =>
    have hn : ¬ isNilSl y = true := by intro h2; simp [k0, h2] at hk
    simp only [pop, if_neg hn] at h
    exact h.2
  | _ => first | exact h.2 | (simp only [k0, Bool.false_eq_true] at hk; done)

theorem k0_step {P : Program} {C : CT} {tb : Nat} {W0 : World} {L0 L : Lay} {ops : List Oper} {o : Oper} {K : List AV → Sto → Prop} {Q : Exit → List AV → Sto → Prop} {e : List AV} {s : Sto} {w : World} {a : Act} (hk : k0 o.op = true) (h : pstep P C tb ops o K Q e s) (hr : Rel W0 L0 L e s w a) :
    ∃ v e', YieldsIf P ops.toArray (fun w' => reads o.op = true → w' = w) o v a ∧ Rel W0 L0 L e' s w (a.put o.dst v) ∧ K e' s := by
  have hrun : ∀ (hs : ps P s [] o.op (aval e)), ∃ v, ARep L w (pv P s o.op (aval e)) v ∧ ∀ w', (reads o.op = true → w' = w) → (execOp a.eval o).run P w' = .ok (.value v) w' := fun hs => by
    obtain ⟨v, g1, g2⟩ := pv_sound (ρ := a.eval) (L := L) (w := w) (X := []) (fun x => aval_rep hr.slots x) hr.objs hr.lk2 o hs
    exact ⟨v, g1, fun w' hw' => g2 w' fun hd => by rw [hw' hd]; exact Keep.refl _ _ _⟩
  unfold pstep at h
  split at h
  · rename_i hg
    obtain ⟨hs, hn⟩ := pop_k0_imp hk h
    obtain ⟨v, g1, g2⟩ := hrun hs
    exact ⟨v, _, .inl ⟨by simp [Region.wanted, hg], g2⟩, hr.put o.dst g1, hn⟩
  · rename_i j want hg
    split at h
    case h_2 => exact h.elim
    rename_i z hb
    have hy := gv_yielded hb hr.slots
    rw [hk] at h
    simp only at h
    by_cases hw : z = some want
    · rw [show (z == some want) = true by simp [hw], gif_true, gif_true] at h
      obtain ⟨v, g1, g2⟩ := hrun h.1
      exact ⟨v, _, .inl ⟨by simp [Region.wanted, hg, hy, hw], g2⟩, hr.put o.dst g1, h.2⟩
    · rw [show (z == some want) = false by simpa using hw, gif_false, gif_false] at h
      exact ⟨undef, _, .inr ⟨by simp [Region.wanted, hg, hy, hw], rfl⟩, hr.put o.dst (x := .no) rfl, h.2⟩

theorem pstep_sound {P : Program} {C : CT} {tb : Nat} (hC : C.ok P) {W0 : World} {L0 L : Lay} {ops : List Oper} {i : Nat} {o : Oper} {K : List AV → Sto → Prop} {Q : Exit → List AV → Sto → Prop} {e : List AV} {s : Sto} {w : World} {a : Act} (hi : ops[i]? = some o) (h : pstep P C tb ops o K Q e s) (hr : Rel W0 L0 L e s w a) :
    wpOpIn (FW L0.ro) 0 P ops.toArray (lift W0 L0 Q) i (fun a' w' => (k0At ops.toArray i = true → w' = w) ∧ After W0 L0 K a' w') a w := by
  unfold wpOpIn
  simp only [List.getElem?_toArray, hi]
  cases hk : k0 o.op with
  | true =>
    obtain ⟨v, e', hy, hr', hn⟩ := k0_step hk h hr
    rcases hy with ⟨hw, hv⟩ | ⟨hw, rfl⟩
    · simp only [hw, if_true]
      refine wpIn_of_wp (.inr (noDef_k0 hk)) ?_
      unfold Oper.wp; rw [hv w (fun _ => rfl)]
      exact ⟨fun _ => rfl, L, e', s, hr', hn⟩
    · simp only [hw, Bool.false_eq_true, if_false]
      exact ⟨fun _ _ => trivial, fun _ => trivial, L, e', s, hr', hn⟩
  | false =>
    have hkA : k0At ops.toArray i = false := by simp [k0At, hi, hk]
    simp only [hkA, Bool.false_eq_true, false_implies, true_and]
    unfold pstep at h
    split at h
    · rename_i hg
      rw [if_pos (by simp [Region.wanted, hg])]
      exact pop_soundIn hC o h hr
    · rename_i j want hg
      split at h
      case h_2 => exact h.elim
      rename_i z hb
      have hy := gv_yielded hb hr.slots
      rw [hk] at h
      by_cases hw : z = some want
      · rw [if_pos (by simp [Region.wanted, hg, hy, hw])]
        exact pop_soundIn hC o (h.1 hw) hr
      · rw [if_neg (by simp [Region.wanted, hg, hy, hw])]
        exact ⟨fun _ _ => trivial, L, _, s, hr.put o.dst (x := .no) rfl, h.2 hw⟩

theorem pd_lift {W0 : World} {L0 : Lay} {ops : List Oper} {Q : Exit → List AV → Sto → Prop} (hQ : Pd ops Q) {o : Oper} (ho : o ∈ ops) {v : Value} (c : List PanicEntry) (a : Act) (w : World) (h : lift W0 L0 Q (.panic c) (a.put o.dst v) w) : lift W0 L0 Q (.panic c) a w := by
  obtain ⟨L, e, s, h1, h2⟩ := h
  cases hd : o.dst with
  | none => rw [hd] at h1; exact ⟨L, e, s, h1, h2⟩
  | some d => rw [hd] at h1; exact ⟨L, _, s, h1.unput, hQ c e s d ⟨o, ho, hd⟩ h2⟩

mutual
theorem any_of_pany {P : Program} {C : CT} {tb : Nat} (hC : C.ok P) {W0 : World} {L0 : Lay} {ops : List Oper} {Q : Exit → List AV → Sto → Prop} (hs : Region.noSelect ops.toArray = true) (hd : ops.all noDef = true) (hQ : Pd ops Q) : ∀ (t : Sch) (listed : Array Bool) (fuel : Nat) {L : Lay} {e : List AV} {s : Sto} {w : World} {a : Act},
    t.depth ≤ fuel → ∀ m, RM ops.length m listed → schOk ops ops.length t m = true → pany P C tb ops t Q e s → Rel W0 L0 L e s w a → wpAnyG L0.ro P .any ops.toArray (lift W0 L0 Q) (k0At ops.toArray) fuel listed a w
  | .done, listed, fuel, L, e, s, w, a, _, m, hm, ho, h, hr => by
    have hrd : Region.ready .any ops.toArray listed = [] := by rw [← rdysN_eq hm]; simpa [schOk] using ho
    have hq : lift W0 L0 Q .normal a w := ⟨L, e, s, hr, h⟩
    cases fuel with
    | zero => exact ⟨hrd, hq⟩
    | succ n => exact ⟨fun _ => hq, by rw [hrd]; simp⟩
  | .one i r, listed, 0, L, e, s, w, a, hf, _, _, _, _, _ => by simp [Sch.depth] at hf
  | .one i r, listed, fuel + 1, L, e, s, w, a, hf, m, hm, ho, h, hr => by
    have hf' : r.depth ≤ fuel := by simpa [Sch.depth] using hf
    simp only [schOk, Bool.and_eq_true, Bool.or_eq_true] at ho
    obtain ⟨hor, hrest⟩ := ho
    unfold pany at h
    split at h
    case h_2 => exact h.elim
    rename_i o hi
    rcases hor with htake | honly
    · obtain ⟨hk, hrd, D, hwt, hall⟩ := takeN_spec hm hi htake
      obtain ⟨v, e', hy, hr', hn⟩ := k0_step hk h hr
      refine wpAnyG_first (oi := o) (v := v) (ld := reads o.op) (by simpa using hi) (Region.noSelect_spec hs) (fun j o ho => List.all_eq_true.1 hd o (List.mem_of_getElem? (by simpa using ho))) (pd_lift hQ (List.mem_of_getElem? hi)) (by simp [k0At, hi, hk]) D (fun j hj => ?_) fuel listed a w (fun j hj => (hwt j hj).1) (fun j oj hoj hji hun hjD => ?_) hrd hy (any_of_pany hC hs hd hQ r _ fuel hf' _ (hm.set (List.getElem?_eq_some_iff.1 hi).1) hrest hn hr')
      · obtain ⟨oj, hoj, ed, hed, hb⟩ := (hwt j hj).2
        exact ⟨oj, by simpa using hoj, ed, hed, hb.1, hb.2⟩
      · have hoj' : ops[j]? = some oj := by simpa using hoj
        have := hall j oj hoj' hji hun hjD
        exact ⟨this.1, fun hl => by simp [k0At, hoj', this.2 hl]⟩
    · have hrd : Region.ready .any ops.toArray listed = [i] := by rw [← rdysN_eq hm]; simpa using honly
      refine ⟨fun h0 => (by rw [hrd] at h0; cases h0), fun j hj => ?_⟩
      rw [hrd] at hj
      obtain rfl : j = i := by simpa using hj
      exact wpOpIn_mono (fun a' w' ⟨h1, L', e', s', h2, h3⟩ => ⟨h1, any_of_pany hC hs hd hQ r _ fuel hf' _ (hm.set (List.getElem?_eq_some_iff.1 hi).1) hrest h3 h2⟩) (pstep_sound hC hi h hr)
  | .alt a b, listed, fuel, L, e, s, w, ac, hf, m, hm, ho, h, hr => by
    simp only [schOk, Bool.and_eq_true, beq_iff_eq] at ho
    obtain ⟨⟨hrd, h1⟩, h2⟩ := ho
    rw [rdysN_eq hm] at hrd
    have hfa : a.depth ≤ fuel := Nat.le_trans (Nat.le_max_left _ _) hf
    have hfb : b.depth ≤ fuel := Nat.le_trans (Nat.le_max_right _ _) hf
    have ha := subs_of_pany hC hs hd hQ a listed fuel hfa m hm h1 h.1 hr
    have hb := subs_of_pany hC hs hd hQ b listed fuel hfb m hm h2 h.2 hr
    obtain ⟨n, rfl, hane, ha⟩ := ha
    obtain ⟨n', hn', _, hb⟩ := hb
    obtain rfl : n = n' := by omega
    refine ⟨fun h0 => ?_, fun i hi => ?_⟩
    · rw [hrd] at h0
      exact absurd (List.append_eq_nil_iff.1 h0).1 hane
    · rw [hrd, List.mem_append] at hi
      exact hi.elim (ha i) (hb i)
theorem subs_of_pany {P : Program} {C : CT} {tb : Nat} (hC : C.ok P) {W0 : World} {L0 : Lay} {ops : List Oper} {Q : Exit → List AV → Sto → Prop} (hs : Region.noSelect ops.toArray = true) (hd : ops.all noDef = true) (hQ : Pd ops Q) : ∀ (t : Sch) (listed : Array Bool) (fuel : Nat) {L : Lay} {e : List AV} {s : Sto} {w : World} {a : Act},
    t.depth ≤ fuel → ∀ m, RM ops.length m listed → schSubs ops ops.length t m = true → pany P C tb ops t Q e s → Rel W0 L0 L e s w a →
    ∃ n, fuel = n + 1 ∧ t.heads ≠ [] ∧ ∀ i ∈ t.heads, wpOpIn (FW L0.ro) 0 P ops.toArray (lift W0 L0 Q) i (fun a' w' => (k0At ops.toArray i = true → w' = w) ∧ wpAnyG L0.ro P .any ops.toArray (lift W0 L0 Q) (k0At ops.toArray) n (listed.setIfInBounds i true) a' w') a w
  | .done, _, _, _, _, _, _, _, _, _, _, ho, _, _ => by simp [schSubs] at ho
  | .one i r, listed, 0, _, _, _, _, _, hf, _, _, _, _, _ => by simp [Sch.depth] at hf
  | .one i r, listed, fuel + 1, L, e, s, w, a, hf, m, hm, ho, h, hr => by
    have hf' : r.depth ≤ fuel := by simpa [Sch.depth] using hf
    simp only [schSubs, Bool.and_eq_true, Nat.blt_eq] at ho
    unfold pany at h
    split at h
    case h_2 => exact h.elim
    rename_i o hi
    refine ⟨fuel, rfl, by simp [Sch.heads], fun j hj => ?_⟩
    obtain rfl : j = i := by simpa [Sch.heads] using hj
    exact wpOpIn_mono (fun a' w' ⟨h1, L', e', s', h2, h3⟩ => ⟨h1, any_of_pany hC hs hd hQ r _ fuel hf' _ (hm.set ho.1) ho.2 h3 h2⟩) (pstep_sound hC hi h hr)
  | .alt a b, listed, fuel, L, e, s, w, ac, hf, m, hm, ho, h, hr => by
    simp only [schSubs, Bool.and_eq_true] at ho
    have hfa : a.depth ≤ fuel := Nat.le_trans (Nat.le_max_left _ _) hf
    have hfb : b.depth ≤ fuel := Nat.le_trans (Nat.le_max_right _ _) hf
    obtain ⟨n, rfl, hane, ha⟩ := subs_of_pany hC hs hd hQ a listed fuel hfa m hm ho.1 h.1 hr
    obtain ⟨n', hn', _, hb⟩ := subs_of_pany hC hs hd hQ b listed _ hfb m hm ho.2 h.2 hr
    obtain rfl : n = n' := by omega
    refine ⟨n, rfl, fun h0 => hane (List.append_eq_nil_iff.1 h0).1, fun i hi => ?_⟩
    simp only [Sch.heads, List.mem_append] at hi
    exact hi.elim (ha i) (hb i)
end

def blkK (id : Nat) (Q : Exit → List AV → Sto → Prop) : Exit → List AV → Sto → Prop
  | .exit i, e, s => if i = id then Q .normal e s else Q (.exit i) e s
  | x, e, s => Q x e s

def scK (Q : Exit → List AV → Sto → Prop) : Exit → List AV → Sto → Prop
  | .goto _, _, _ => False
  | x, e, s => Q x e s

def ploop (P : Program) (c : Code) (Q : Exit → List AV → Sto → Prop) (e : List AV) (s : Sto) : Prop := psem P (.loop c) Q e s
def okO (O : Nat → Sch) : Code → Bool
  | .region id ops true => (Region.noSelect ops && ops.toList.all noDef) && schOk ops.toList ops.toList.length (O id) 0 && decide ((O id).depth ≤ ops.size)
  | .seq x y => okO O x && okO O y
  | .cond _ x y => okO O x && okO O y
  | .block _ c => okO O c
  | .loop c => okO O c
  | .scope c => okO O c
  | .rangeFunc _ _ as bd => okO O as && okO O bd
  | _ => true

def pwp (P : Program) (C : CT) (O : Nat → Sch) (tb : Nat) : Code → (Exit → List AV → Sto → Prop) → List AV → Sto → Prop
  | .skip, Q, e, s => Q .normal e s
  | .label _, Q, e, s => Q .normal e s
  | .region _ ops false, Q, e, s => pops P C tb ops.toList ops.toList Q e s
  | .region id ops true, Q, e, s => Pd ops.toList Q ∧ pany P C tb ops.toList (O id) Q e s
  | .seq x y, Q, e, s => pwp P C O tb x (seqK (pwp P C O tb y Q) Q) e s
  | .cond c x y, Q, e, s => (aval e c).isBool ∧ ((aval e c).bool = true → pwp P C O tb x Q e s) ∧ ((aval e c).bool = false → pwp P C O tb y Q e s)
  | .block id c, Q, e, s => pwp P C O tb c (blkK id Q) e s
  | .loop c, Q, e, s => ploop P c Q e s
  | .exit id, Q, e, s => Q (.exit id) e s
  | .goto l, Q, e, s => Q (.goto l) e s
  | .ret, Q, e, s => Q .ret e s
  | .scope c, Q, e, s => pwp P C O tb c (scK Q) e s
  | c, Q, e, s => psem P c Q e s

theorem lift_seq {W0 : World} {L0 : Lay} {N : List AV → Sto → Prop} {Q : Exit → List AV → Sto → Prop} {next : Act → World → Prop} (h : ∀ L e s a w, Rel W0 L0 L e s w a → N e s → next a w) :
    ∀ x a w, lift W0 L0 (seqK N Q) x a w → Exit.then next (lift W0 L0 Q) x a w := by
  rintro x a w ⟨L, e, s, h1, h2⟩
  cases x with
  | normal => exact h L e s a w h1 h2
  | _ => exact ⟨L, e, s, h1, h2⟩

theorem pwp_sound {P : Program} {C : CT} {O : Nat → Sch} {tb : Nat} (hC : C.ok P) (hm : P.follows .mixedOrders = true) : ∀ (c : Code) {Q : Exit → List AV → Sto → Prop} {e : List AV} {s : Sto}, okO O c = true → pwp P C O tb c Q e s → psem P c Q e s
  | .skip, Q, e, s, _, h => fun W0 L0 L w a hr => wpX_of (wpIn_skip ⟨L, e, s, hr, h⟩)
  | .label l, Q, e, s, _, h => fun W0 L0 L w a hr => wpX_of (wpIn_label ⟨L, e, s, hr, h⟩)
  | .region id ops false, Q, e, s, _, h => fun W0 L0 L w a hr => wpX_of (wpIn_region_list (by have := pops_sound hC (W0 := W0) (L0 := L0) ops.toList h hr; simpa using this))
  | .region id ops true, Q, e, s, ho, h => fun W0 L0 L w a hr => by
    simp only [okO, Bool.and_eq_true, decide_eq_true_eq] at ho
    refine wpX_of (wpIn_region_any hm (wpAny_of_G (qt := k0At ops) _ _ _ _ ?_))
    have := any_of_pany hC (W0 := W0) (L0 := L0) (ops := ops.toList) (by simpa using ho.1.1.1) ho.1.1.2 h.1 (O id) (Array.replicate ops.size false) ops.size ho.2 0 (by have := RM.zero (n := ops.toList.length); simpa using this) ho.1.2 h.2 (hr.grow (below_drew w))
    simpa using this
  | .seq x y, Q, e, s, ho, h => fun W0 L0 L w a hr => by
    simp only [okO, Bool.and_eq_true] at ho
    exact wpX_seq (wpX_mono (lift_seq fun L e s a w h1 h2 => pwp_sound hC hm y ho.2 h2 W0 L0 L w a h1) (pwp_sound hC hm x ho.1 h W0 L0 L w a hr))
  | .cond c x y, Q, e, s, ho, h => fun W0 L0 L w a hr => by
    simp only [okO, Bool.and_eq_true] at ho
    obtain ⟨hb, h1, h2⟩ := h
    have hc := AV.isBool_rep hb (aval_rep hr.slots c)
    cases ht : (aval e c).bool with
    | true => rw [ht] at hc; exact wpX_cond (t := true) hc (pwp_sound hC hm x ho.1 (h1 ht) W0 L0 L w a hr)
    | false => rw [ht] at hc; exact wpX_cond (t := false) hc (pwp_sound hC hm y ho.2 (h2 ht) W0 L0 L w a hr)
  | .block id c, Q, e, s, ho, h => fun W0 L0 L w a hr => wpX_block (wpX_mono (fun x a w ⟨L, e, s, h1, h2⟩ => by
      cases x with
      | exit i =>
        simp only [blkK] at h2
        simp only [Exit.inBlock]
        split at h2
        · rename_i hi; rw [if_pos hi]; exact ⟨L, e, s, h1, h2⟩
        · rename_i hi; rw [if_neg hi]; exact ⟨L, e, s, h1, h2⟩
      | _ => exact ⟨L, e, s, h1, h2⟩) (pwp_sound hC hm c (by simpa [okO] using ho) h W0 L0 L w a hr))
  | .loop c, Q, e, s, _, h => h
  | .exit id, Q, e, s, _, h => fun W0 L0 L w a hr => wpX_of (wpIn_exit ⟨L, e, s, hr, h⟩)
  | .goto l, Q, e, s, _, h => fun W0 L0 L w a hr => wpX_of (wpIn_goto ⟨L, e, s, hr, h⟩)
  | .ret, Q, e, s, _, h => fun W0 L0 L w a hr => wpX_of (wpIn_ret ⟨L, e, s, hr, h⟩)
  | .rangeFunc f ps as b, Q, e, s, _, h => h
  | .scope c, Q, e, s, ho, h => fun W0 L0 L w a hr => wpX_scope (wpX_mono (fun x a w ⟨L, e, s, h1, h2⟩ => by
      cases x with
      | goto l => exact h2.elim
      | _ => exact ⟨L, e, s, h1, h2⟩) (pwp_sound hC hm c (by simpa [okO] using ho) h W0 L0 L w a hr))
  | .refuse y, Q, e, s, _, h => h

end Go.E

namespace Go.E
open Go Go.RowKit

inductive End where
  | ret (d : D)
  | pan (c : List PanicEntry)

def PF (P : Program) (f : Nat) (ds : List D) (R : End → Prop) : Prop :=
  callable P f = true ∧ ∀ (F : Nat → Prop) (w : World) (vs : Array Value), DReps (look F w) ds vs.toList →
    Calls P f vs w (fun en w' => Below w.heap.size w w' ∧ match en with
      | .returned v => ∃ d, R (.ret d) ∧ DRep (look (fun b => F b ∨ w.heap.size ≤ b) w') d v
      | .panicked c => R (.pan c)
      | .outgrown => False)

theorem PF.mono {P : Program} {f : Nat} {ds : List D} {R R' : End → Prop} (h : PF P f ds R) (hr : ∀ x, R x → R' x) : PF P f ds R' :=
  ⟨h.1, fun F w vs hd => (h.2 F w vs hd).mono fun en w' ⟨h1, h2⟩ => ⟨h1, by
    cases en with
    | returned v => obtain ⟨d, h3, h4⟩ := h2; exact ⟨d, hr _ h3, h4⟩
    | panicked c => exact hr _ h2
    | outgrown => exact h2⟩⟩

theorem reps_of_d {L : Lay} {w : World} : ∀ {ds : List D} {us : List Value}, AReps L w (ds.map .d) us → DReps (L.mem w) ds us
  | [], _, h => h
  | _ :: _, _, ⟨u, ut, e, h1, h2⟩ => ⟨u, ut, e, h1, reps_of_d h2⟩

theorem pcall_d {P : Program} {f : Nat} {ds : List D} {R : End → Prop} {K : AV → List AV → Sto → Prop} {Q : Exit → List AV → Sto → Prop} {e : List AV} {s : Sto} (h : PF P f ds R)
    (hK : ∀ d, R (.ret d) → K (.d d) e s) (hQ : ∀ c, R (.pan c) → Q (.panic c) e s) : pcall P f (ds.map .d) K Q e s := by
  refine ⟨h.1, fun W0 L0 L w a vs hr hv => (h.2 (fun b => L.own b = none) w vs (reps_of_d hv)).mono fun en w' ⟨hb, hen⟩ => ?_⟩
  have hr' := hr.grow hb
  cases en with
  | returned v =>
    obtain ⟨d, h1, h2⟩ := hen
    refine ⟨L, e, s, .d d, hr', DRep.mono (look_le fun b hb' hlt => ⟨?_, rfl⟩) d v h2, hK d h1⟩
    rcases hb' with h | h
    · exact h
    · cases ho : L.own b with
      | none => rfl
      | some g => have := hr.own_lt b g ho; omega
  | panicked c => exact ⟨L, e, s, hr', hQ c hen⟩
  | outgrown => exact hen

mutual
def D.flat : D → Bool
  | .v _ => true
  | .agg cs => D.flats cs
  | .tup cs => D.flats cs
  | .iface _ x => x.flat
  | _ => false
def D.flats : List D → Bool
  | [] => true
  | d :: ds => d.flat && D.flats ds
end
mutual
theorem D.flat_rep {m m' : Mem} : ∀ {d : D} {u : Value}, d.flat = true → DRep m d u → DRep m' d u
  | .v _, _, _, k => k
  | .agg _, _, h, ⟨us, e, k⟩ => ⟨us, e, D.flats_rep (by simpa [D.flat] using h) k⟩
  | .tup _, _, h, ⟨us, e, k⟩ => ⟨us, e, D.flats_rep (by simpa [D.flat] using h) k⟩
  | .iface _ _, _, h, ⟨y, e, k⟩ => ⟨y, e, D.flat_rep (by simpa [D.flat] using h) k⟩
  | .sl _ _, _, h, _ => by simp [D.flat] at h
  | .ptr _ _, _, h, _ => by simp [D.flat] at h
  | .clo _ _ _, _, h, _ => by simp [D.flat] at h
theorem D.flats_rep {m m' : Mem} : ∀ {ds : List D} {us : List Value}, D.flats ds = true → DReps m ds us → DReps m' ds us
  | [], _, _, k => k
  | d :: ds, _, h, ⟨u, ut, e, k1, k2⟩ => by
    simp only [D.flats, Bool.and_eq_true] at h
    exact ⟨u, ut, e, D.flat_rep h.1 k1, D.flats_rep h.2 k2⟩
end

theorem ownRow_read {g e s : Nat} {L : Lay} {w : World} {rows : List (List D)} {u : Value} {F : Nat → Prop} (h : OwnRow L w g e s rows u) (hF : ∀ b, L.own b = none ∨ L.own b = some g → F b) : DRep (look F w) (.sl s rows) u := by
  obtain ⟨xs, h1, h2, h3, h4, h5⟩ := h
  have hle : (L.mem w).le (look F w) := look_le fun b hb _ => ⟨hF b (.inl hb), rfl⟩
  rcases h1.2 with ⟨e1, e2⟩ | ⟨b, cap, cur, e1, _, e3, e4, e5, e6, e7⟩
  · exact ⟨none, 0, 0, e1, e2.symm, Nat.le_refl _, .inl ⟨rfl, rfl, rfl⟩⟩
  · refine ⟨_, _, _, e1, rfl, e4, .inr ⟨b, 0, rfl, DRows.of_get fun i r hi => ?_⟩⟩
    have hrl := h3 r (List.mem_of_getElem? hi)
    refine ⟨hrl, DCells.of_get fun j d hd => ?_⟩
    have hj : j < s := by rw [← hrl]; exact (List.getElem?_eq_some_iff.1 hd).1
    have hf := flat_get h3 i j r hi hj
    rw [hd] at hf
    obtain ⟨x, hx, hdx⟩ := h5.get _ d hf
    refine ⟨x, look_some.2 ⟨hF b (.inr (h2 b (by rw [e1]; rfl))), ?_⟩, h4 x (List.mem_of_getElem? hx), DRep.mono hle _ _ hdx⟩
    have := h1.cells (g := b) (by rw [e1]; rfl) (i * s + j) x hx
    rw [add_none] at this
    simpa using this

mutual
def AV.rd : AV → Option D
  | .d x => some x
  | .own _ _ s rows => some (.sl s rows)
  | .agg xs => (AV.rds xs).map .agg
  | _ => none
def AV.rds : List AV → Option (List D)
  | [] => some []
  | x :: xs => match x.rd, AV.rds xs with | some z, some ds => some (z :: ds) | _, _ => none
end
mutual
theorem AV.rd_rep {L : Lay} {w : World} : ∀ {x : AV} {d : D} {u : Value}, AV.rd x = some d → ARep L w x u → DRep (look (fun _ => True) w) d u
  | .d x, z, u, h, k => by
    simp only [AV.rd, Option.some.injEq] at h
    subst h; exact DRep.mono (look_le fun b _ _ => ⟨trivial, rfl⟩) _ _ k
  | .own _ _ s rows, z, u, h, k => by
    simp only [AV.rd, Option.some.injEq] at h
    subst h; exact ownRow_read k.2 fun _ _ => trivial
  | .agg xs, z, u, h, ⟨us, e, k⟩ => by
    simp only [AV.rd, Option.map_eq_some_iff] at h
    obtain ⟨ds, h1, rfl⟩ := h
    exact ⟨us, e, AV.rds_rep h1 k⟩
  | .any, _, _, h, _ | .bx .., _, _, h, _ | .eref .., _, _, h, _ | .ref .., _, _, h, _ | .tup _, _, _, h, _ | .clo .., _, _, h, _ | .iface .., _, _, h, _ | .yld .., _, _, h, _ | .mp _, _, _, h, _ | .it _, _, _, h, _ => by simp [AV.rd] at h
theorem AV.rds_rep {L : Lay} {w : World} : ∀ {xs : List AV} {ds : List D} {us : List Value}, AV.rds xs = some ds → AReps L w xs us → DReps (look (fun _ => True) w) ds us
  | [], ds, us, h, k => by simp [AV.rds] at h; subst h; exact k
  | x :: xs, ds, us, h, ⟨u, ut, e, k1, k2⟩ => by
    simp only [AV.rds] at h
    split at h
    · rename_i d ds' h1 h2
      simp at h; subst h
      exact ⟨u, ut, e, AV.rd_rep h1 k1, AV.rds_rep h2 k2⟩
    · cases h
end

theorem pcall_r {P : Program} {f : Nat} {args : List AV} {ds : List D} {R : End → Prop} {K : AV → List AV → Sto → Prop} {Q : Exit → List AV → Sto → Prop} {e : List AV} {s : Sto} (h : PF P f ds R) (ha : AV.rds args = some ds)
    (hK : ∀ d, R (.ret d) → d.flat = true ∧ K (.d d) e s) (hQ : ∀ c, R (.pan c) → Q (.panic c) e s) : pcall P f args K Q e s := by
  refine ⟨h.1, fun W0 L0 L w a vs hr hv => (h.2 (fun _ => True) w vs (AV.rds_rep ha hv)).mono fun en w' ⟨hb, hen⟩ => ?_⟩
  have hr' := hr.grow hb
  cases en with
  | returned v =>
    obtain ⟨d, h1, h2⟩ := hen
    exact ⟨L, e, s, .d d, hr', D.flat_rep (hK d h1).1 h2, (hK d h1).2⟩
  | panicked c => exact ⟨L, e, s, hr', hQ c hen⟩
  | outgrown => exact hen

def resV (P : Program) (e : List AV) (s : Sto) : ResultVar → AV
  | .tmp t => e.getD t .any
  | .cell x t => loadV P s t (e.getD x .any)
def resS (P : Program) (e : List AV) (s : Sto) : ResultVar → Prop
  | .tmp _ => True
  | .cell x t => loadS P s [] t (e.getD x .any)
def outL (f : AV → Option D) : List AV → Option (List D)
  | [] => some []
  | x :: xs => match f x, outL f xs with | some z, some ds => some (z :: ds) | _, _ => none
def AV.outF (s : Sto) : Nat → AV → Option D
  | _, .d x => some x
  | _, .own g _ sz rows => if g = 0 then none else some (.sl sz rows)
  | n + 1, .ref g off => if g = 0 then none else match s.get g with
    | some c => if c.all AV.one = true then (outL (AV.outF s n) c).map (fun ds => .ptr ds off) else none
    | none => none
  | n + 1, .agg xs => (outL (AV.outF s n) xs).map .agg
  | n + 1, .iface t x => (AV.outF s n x).map (.iface t)
  | n + 1, .clo f x y => match outL (AV.outF s n) x, outL (AV.outF s n) y with | some a, some b => some (.clo f a b) | _, _ => none
  | _, _ => none
abbrev AV.outs (s : Sto) (xs : List AV) : Option (List D) := outL (AV.outF s 6) xs
def resAll (P : Program) (e : List AV) (s : Sto) : List ResultVar → Prop
  | [] => True
  | r :: rs => resS P e s r ∧ resAll P e s rs
def packD : List D → D
  | [d] => d
  | ds => .tup ds

def retK (P : Program) (rs : List ResultVar) (R : End → Prop) : Exit → List AV → Sto → Prop
  | .normal, e, s | .ret, e, s => s.get 0 = some [] ∧ resAll P e s rs ∧ ∃ ds, AV.outs s (rs.map (resV P e s)) = some ds ∧ R (.ret (packD ds))
  | .panic c, _, s => s.get 0 = some [] ∧ R (.pan c)
  | _, _, _ => False

theorem outL_rep {L : Lay} {w : World} {m : Mem} {f : AV → Option D} (hf : ∀ x d u, f x = some d → ARep L w x u → DRep m d u) : ∀ {xs : List AV} {ds : List D} {us : List Value}, outL f xs = some ds → AReps L w xs us → DReps m ds us
  | [], ds, us, h, k => by simp [outL] at h; subst h; exact k
  | x :: xs, ds, us, h, ⟨u, ut, e, k1, k2⟩ => by
    simp only [outL] at h
    split at h
    · rename_i d ds' h1 h2
      simp at h; subst h
      exact ⟨u, ut, e, hf _ _ _ h1 k1, outL_rep hf h2 k2⟩
    · cases h
theorem outF_rep {W0 : World} {L0 L : Lay} {e : List AV} {s : Sto} {w : World} {a : Act} {F : Nat → Prop} (hr : Rel W0 L0 L e s w a) (hnone : ∀ b, L.own b = none → F b) (hsome : ∀ b g, g ≠ 0 → L.own b = some g → F b) :
    ∀ (n : Nat) (x : AV) (d : D) (u : Value), AV.outF s n x = some d → ARep L w x u → DRep (look F w) d u
  | n, .d y, d, u, h, k => by
    simp [AV.outF] at h; subst h; exact DRep.mono (look_le fun b hb _ => ⟨hnone b hb, rfl⟩) _ _ k
  | n, .own g el sz rows, d, u, h, k => by
    have h : (if g = 0 then none else some (D.sl sz rows)) = some d := by cases n <;> exact h
    split at h
    · cases h
    · rename_i hg
      simp at h; subst h
      exact ownRow_read k.2 fun b hb => by
        rcases hb with h | h
        · exact hnone b h
        · exact hsome b g hg h
  | n + 1, .ref g off, d, u, h, k => by
    simp only [AV.outF] at h
    split at h
    · cases h
    · rename_i hg
      split at h
      · rename_i c hc
        split at h
        · rename_i hone
          obtain ⟨ds, h1, rfl⟩ := Option.map_eq_some_iff.1 h
          obtain ⟨vs0, e0, e3⟩ := (hr.objs g c hc).2 hg
          obtain ⟨cs, t, e1, e2, rfl⟩ := e0.cells k.2
          have hds := outL_rep (outF_rep hr hnone hsome n) h1 e3
          have hones := AV.ones_rep hone e3
          refine ⟨L.blk g, 0, by rw [show u = _ from k.1]; simp, DCells.of_get fun i d hd => ?_⟩
          obtain ⟨x, hx, hdx⟩ := hds.get i d hd
          refine ⟨x, look_some.2 ⟨hsome _ g hg e2, ?_⟩, hones x (List.mem_of_getElem? hx), hdx⟩
          simp only [World.cell?, e1]
          simpa using hx
        · cases h
      · cases h
  | n + 1, .agg xs, d, u, h, ⟨us, hu, k⟩ => by
    simp only [AV.outF] at h
    obtain ⟨ds, h1, rfl⟩ := Option.map_eq_some_iff.1 h
    exact ⟨us, hu, outL_rep (outF_rep hr hnone hsome n) h1 k⟩
  | n + 1, .iface t x, d, u, h, ⟨y, hu, k⟩ => by
    simp only [AV.outF] at h
    obtain ⟨d', h1, rfl⟩ := Option.map_eq_some_iff.1 h
    exact ⟨y, hu, outF_rep hr hnone hsome n x d' y h1 k⟩
  | 0, .any, _, _, h, _ => by simp [AV.outF] at h
  | 0, .eref _ _ _ _ _ _, _, _, h, _ => by simp [AV.outF] at h
  | 0, .ref _ _, _, _, h, _ => by simp [AV.outF] at h
  | 0, .tup _, _, _, h, _ => by simp [AV.outF] at h
  | 0, .agg _, _, _, h, _ => by simp [AV.outF] at h
  | 0, .clo _ _ _, _, _, h, _ => by simp [AV.outF] at h
  | 0, .iface _ _, _, _, h, _ => by simp [AV.outF] at h
  | 0, .yld _ _ _ _ _, _, _, h, _ => by simp [AV.outF] at h
  | 0, .mp _, _, _, h, _ => by simp [AV.outF] at h
  | n + 1, .mp _, _, _, h, _ => by simp [AV.outF] at h
  | 0, .it _, _, _, h, _ => by simp [AV.outF] at h
  | 0, .bx .., _, _, h, _ => by simp [AV.outF] at h
  | n + 1, .bx .., _, _, h, _ => by simp [AV.outF] at h
  | n + 1, .it _, _, _, h, _ => by simp [AV.outF] at h
  | n + 1, .yld _ _ _ _ _, _, _, h, _ => by simp [AV.outF] at h
  | n + 1, .any, _, _, h, _ => by simp [AV.outF] at h
  | n + 1, .eref _ _ _ _ _ _, _, _, h, _ => by simp [AV.outF] at h
  | n + 1, .tup _, _, _, h, _ => by simp [AV.outF] at h
  | n + 1, .clo f x y, d, u, h, ⟨xs, ys, hu, k1, k2⟩ => by
    simp only [AV.outF] at h
    split at h
    · rename_i ds1 ds2 h1 h2
      simp only [Option.some.injEq] at h
      subst h
      exact ⟨xs, ys, hu, outL_rep (outF_rep hr hnone hsome n) h1 k1, outL_rep (outF_rep hr hnone hsome n) h2 k2⟩
    · cases h
theorem outs_rep {W0 : World} {L0 L : Lay} {e : List AV} {s : Sto} {w : World} {a : Act} {F : Nat → Prop} (hr : Rel W0 L0 L e s w a) (hLF : ∀ b, b < W0.heap.size → F b → L0.own b = none) (hLN : ∀ b, b < W0.heap.size → ¬ F b → L0.own b = some 0)
    {xs : List AV} {ds : List D} {us : List Value} (h : AV.outs s xs = some ds) (k : AReps L w xs us) : DReps (look (fun b => F b ∨ W0.heap.size ≤ b) w) ds us := by
  have hnone : ∀ b, L.own b = none → F b ∨ W0.heap.size ≤ b := fun b hb => by
    by_cases hlt : b < W0.heap.size
    · by_cases hF : F b
      · exact .inl hF
      · have h0 := hLN b hlt hF
        have := (hr.old b hlt (.inr h0)).1
        rw [hb, h0] at this; cases this
    · exact .inr (by omega)
  have hsome : ∀ b g, g ≠ 0 → L.own b = some g → F b ∨ W0.heap.size ≤ b := fun b g hg hb => by
    by_cases hlt : b < W0.heap.size
    · have h0 : L0.own b = none ∨ L0.own b = some 0 := by
        by_cases hF : F b
        · exact .inl (hLF b hlt hF)
        · exact .inr (hLN b hlt hF)
      have := (hr.old b hlt h0).1
      rw [hb] at this
      rcases h0 with h | h <;> rw [h] at this <;> simp at this
      exact absurd this hg
    · omega
  exact outL_rep (outF_rep hr hnone hsome 6) h k

theorem results_run {P : Program} {W0 : World} {L0 L : Lay} {e : List AV} {s : Sto} {w : World} {a : Act} (hr : Rel W0 L0 L e s w a) (g : ResultVar → Sem Value) (hg1 : ∀ t, g (.tmp t) = pure (a.tmps.getD t undef)) (hg2 : ∀ x t, g (.cell x t) = do loadVar t (← asAddr (a.tmps.getD x undef))) : ∀ (rs : List ResultVar), resAll P e s rs →
    ∃ vs : List Value, (rs.mapM g).run P w = .ok vs w ∧ AReps L w (rs.map (resV P e s)) vs
  | [], _ => ⟨[], by simp, rfl⟩
  | .tmp t :: rs, h => by
    obtain ⟨vs, h1, h2⟩ := results_run hr g hg1 hg2 rs h.2
    exact ⟨_ :: vs, by simp only [List.mapM_cons, Sem.run_bind, hg1, Sem.run_pure, Result.andThen_ok, h1]; rfl, _, _, rfl, aval_rep hr.slots (.tmp t), h2⟩
  | .cell x t :: rs, h => by
    obtain ⟨vs, h1, h2⟩ := results_run hr g hg1 hg2 rs h.2
    have hx := aval_rep hr.slots (.tmp x)
    obtain ⟨v, g1, g2⟩ := yv_load (P := P) (X := []) (dst := none) (type := 0) (pos := "") (after := #[]) (guard := none) (S := s) (ρ := a.eval) (A := aval e) t (.tmp x) hx hr.objs hr.lk2 h.1
    have hrun := g2 w (fun _ => Keep.refl _ _ _)
    simp only [execOp, Instr.loadAt, Sem.run_bind, Act.eval] at hrun
    refine ⟨v :: vs, ?_, v, vs, rfl, g1, h2⟩
    have hload : ((asAddr (a.tmps.getD x undef)).run P w).andThen (fun ad w1 => (loadVar t ad).run P w1) = .ok v w := by
      cases hu : a.tmps.getD x undef with
      | pointer o =>
        cases o with
        | none => simp [hu, Instr.sureAddr] at hrun
        | some ad =>
          simp only [hu, Instr.sureAddr, Sem.run_pure, Result.andThen_ok] at hrun
          simp only [asAddr, Sem.run_pure, Result.andThen_ok]
          cases hl : (loadVar t ad).run P w with
          | ok v' w' => simp [hl] at hrun; simp [hrun]
          | halt x w' => simp [hl] at hrun
      | _ => simp [hu, Instr.sureAddr] at hrun
    simp only [List.mapM_cons, Sem.run_bind, hg2, hload, Result.andThen_ok, h1, Sem.run_pure]

theorem rel_none {W0 : World} {L0 L : Lay} {e : List AV} {s : Sto} {w : World} {a : Act} (hr : Rel W0 L0 L e s w a) (h : s.get 0 = some []) : L.hid = [] ∧ strip a.defers = [] := by
  have h1 : L.hid = [] := (hr.objs 0 [] h).1 rfl
  obtain ⟨vs, h2, h3⟩ := hr.hid
  rw [h1] at h2
  have := (List.append_eq_nil_iff.1 h2.symm).1
  subst this
  exact ⟨h1, h3⟩

def outK (P : Program) (rs : List ResultVar) (R : End → Prop) (e : List AV) (s : Sto) : Prop := resAll P e s rs ∧ ∃ ds, AV.outs s (rs.map (resV P e s)) = some ds ∧ R (.ret (packD ds))
noncomputable def lay0 (F : Nat → Prop) (w : World) : Lay := by
  classical
  exact { own := fun b => if b < w.heap.size then (if F b then none else some 0) else none, blk := fun _ => 0, hdr := fun _ => undef, hid := [], rd := none, kp := [], lk := fun _ => none }
theorem lay0_rel {F : Nat → Prop} {w : World} {ds : List D} {vs : Array Value} {n : Nat} (hd : DReps (look F w) ds vs.toList) :
    Rel w (lay0 F w) (lay0 F w) (ds.map .d ++ List.replicate (n - ds.length) .any) [(0, [])] w { tmps := vs ++ Array.replicate (n - vs.size) undef, defers := [] } := by
  have hmem : (look F w).le ((lay0 F w).mem w) := look_le fun b hb hlt => ⟨by simp [lay0, hlt, hb], rfl⟩
  have hlen := hd.length
  exact
    { slots := by
        simp only [Array.toList_append, Array.toList_replicate]
        refine areps_append (areps_d (DReps.mono hmem _ _ hd)) (AReps.of_get ?_ fun i d u h1 h2 => ?_)
        · simp only [List.length_replicate]; rw [← hlen]; simp
        · have := List.mem_of_getElem? h1
          rw [List.eq_of_mem_replicate this]; trivial
      hid := ⟨[], rfl, rfl⟩
      rd := .inl rfl
      mks := ⟨by simp [marks], by simp [marks]⟩
      mkb := by simp [marks]
      kept := fun b o hb => by cases hb
      rdk := fun l hb => by cases hb
      lke := rfl
      lkb := fun g r hg => by cases hg
      lki := fun g g' r r' hg => by cases hg
      objs := fun g c hg => by
        simp only [Sto.get] at hg
        split at hg
        · rename_i e; subst e; simp at hg; subst hg; exact ⟨fun _ => rfl, fun h => absurd rfl h⟩
        · cases hg
      old := fun b _ _ => ⟨rfl, rfl⟩
      size := Nat.le_refl _
      own_lt := fun b g hb => by
        simp only [lay0] at hb
        split at hb
        · assumption
        · cases hb
      os := rfl, tape := rfl, output := rfl }
theorem lay0_below {F : Nat → Prop} {w w' : World} {L : Lay} {e : List AV} {s : Sto} {a : Act} (hr' : Rel w (lay0 F w) L e s w' a) : Below w.heap.size w w' :=
  ⟨hr'.os, hr'.tape, hr'.output, hr'.size, fun b hb => (hr'.old b hb (by simp only [lay0]; rw [if_pos hb]; by_cases hF : F b <;> simp [hF])).2⟩
theorem lay0_fin {P : Program} {F : Nat → Prop} {w w' : World} {L : Lay} {e : List AV} {s : Sto} {a : Act} {fn : Func} {rs : Array ResultVar} {R : End → Prop} (hr' : Rel w (lay0 F w) L e s w' a) (hrs : fn.results = rs) (hq : outK P rs.toList R e s) :
    ∃ v, (results fn a.tmps).run P w' = .ok v w' ∧ (Below w.heap.size w w' ∧ ∃ d, R (.ret d) ∧ DRep (look (fun b => F b ∨ w.heap.size ≤ b) w') d v) := by
  obtain ⟨h1, ds', h2, h3⟩ := hq
  obtain ⟨us, g1, g2⟩ := results_run hr' (fun r => match r with | .tmp t => pure (a.tmps.getD t undef) | .cell x t => do loadVar t (← asAddr (a.tmps.getD x undef))) (fun t => rfl) (fun x t => rfl) rs.toList h1
  have ho := outs_rep hr' (F := F) (fun b hb hF => by simp only [lay0]; rw [if_pos hb, if_pos hF]) (fun b hb hF => by simp only [lay0]; rw [if_pos hb, if_neg hF]) h2 g2
  have hol := ho.length
  refine ⟨if h : us.toArray.size = 1 then us.toArray[0] else .tuple us.toArray, ?_, lay0_below hr', packD ds', h3, ?_⟩
  · unfold results
    rw [hrs, Array.mapM_eq_mapM_toList]
    simp only [Sem.run_bind, Sem.run_map]
    erw [g1]
    rfl
  · match ds', us, hol with
    | [], [], _ => exact ⟨_, rfl, ho⟩
    | [d], [u], _ => obtain ⟨u', ut, e, k1, _⟩ := ho; simp at e; rw [← e.1] at k1; simpa [packD] using k1
    | d1 :: d2 :: dr, u1 :: u2 :: ur, _ => exact ⟨(u1 :: u2 :: ur).toArray, by rw [dif_neg (by simp)], ho⟩


theorem PF_intro {P : Program} {f : Nat} {fn : Func} {c : Code} {n : Nat} {rs : Array ResultVar} {ds : List D} {R : End → Prop} (hf : P.funcs[f]? = some fn) (hc : callable P f = true) (hb : fn.body = some c) (hn : fn.ntmps = n) (hrs : fn.results = rs)
    (h : psem P c (retK P rs.toList R) (ds.map .d ++ List.replicate (n - ds.length) .any) [(0, [])]) : PF P f ds R := by
  refine ⟨hc, fun F w vs hd => (calls_of_wpX hf hb (wpX_mono ?_ (h w (lay0 F w) (lay0 F w) w { tmps := vs ++ Array.replicate (fn.ntmps - vs.size) undef, defers := [] } (by rw [← hn]; exact lay0_rel hd))))⟩
  rintro x a w' ⟨L, e, s, hr', hq⟩
  have fin : (s.get 0 = some [] ∧ outK P rs.toList R e s) → LeavesInM (FW none) 0 P fn a.tmps (fun en w' => Below w.heap.size w w' ∧ match en with
      | .returned v => ∃ d, R (.ret d) ∧ DRep (look (fun b => F b ∨ w.heap.size ≤ b) w') d v
      | .panicked c => R (.pan c)
      | .outgrown => False) a.defers .returning w' := fun ⟨h0, hq⟩ =>
    leave_marks (by simp) a.defers w' (rel_none hr' h0).2 hr'.mks.1 (fun r h => (hr'.mks.2 r h).1) fun w'' hsh => by
      obtain ⟨v, h1, h2⟩ := lay0_fin (hr'.shut (rel_none hr' h0).2 hsh) hrs hq
      exact ⟨v, h1, h2.1, h2.2⟩
  cases x with
  | normal => exact fin hq
  | ret => exact fin hq
  | panic c => exact leave_marks (by simp) a.defers w' (rel_none hr' hq.1).2 hr'.mks.1 (fun r h => (hr'.mks.2 r h).1) fun w'' hsh => ⟨lay0_below (hr'.shut (rel_none hr' hq.1).2 hsh), hq.2⟩
  | exit i => exact hq
  | goto l => exact hq
  | outgrown => exact hq.elim

end Go.E

namespace Go.E
open Go

inductive At {α : Sort _} : α → Type | mk (x : α) : At x
def mk {α : Sort _} (x : α) : At x := .mk x
abbrev Kt := Exit → List AV → Sto → Prop
def xW (P : Program) (C : CT) (O : Nat → Sch) (tb : Nat) (c : Code) (Q : Kt) (_ : At c) (_ : At Q) (e : List AV) (s : Sto) : Prop := pwp P C O tb c Q e s
def xO (P : Program) (C : CT) (tb : Nat) (ops l : List Oper) (Q : Kt) (_ : At ops) (_ : At l) (_ : At Q) (e : List AV) (s : Sto) : Prop := pops P C tb ops l Q e s
def xP (P : Program) (C : CT) (tb : Nat) (o : Oper) (K : List AV → Sto → Prop) (Q : Kt) (_ : At o) (_ : At K) (_ : At Q) (e : List AV) (s : Sto) : Prop := pop P C tb o K Q e s
def xL (P : Program) (c : Code) (Q : Kt) (_ : At c) (_ : At Q) (e : List AV) (s : Sto) : Prop := ploop P c Q e s
def xJ (P : Program) (C : CT) (tb : Nat) (ops : List Oper) (t : Sch) (Q : Kt) (_ : At ops) (_ : At Q) (e : List AV) (s : Sto) : Prop := pany P C tb ops t Q e s
def xT (P : Program) (C : CT) (tb : Nat) (ops : List Oper) (o : Oper) (K : List AV → Sto → Prop) (Q : Kt) (_ : At ops) (_ : At o) (_ : At K) (_ : At Q) (e : List AV) (s : Sto) : Prop := pstep P C tb ops o K Q e s
def xF (P : Program) (C : CT) (tb : Nat) (ops l : List Oper) (n : Nat) (K : List AV → Sto → Prop) (Q : Kt) (_ : At ops) (_ : At l) (_ : At K) (_ : At Q) (e : List AV) (s : Sto) : Prop := match l[n]? with | some o => pstep P C tb ops o K Q e s | none => False
def xQd (ops : List Oper) (Q : Kt) (_ : At ops) (_ : At Q) : Prop := Pd ops Q
def xC (C : CT) (f : Nat) (args : List AV) (K : AV → List AV → Sto → Prop) (Q : Kt) (_ : At K) (_ : At Q) (e : List AV) (s : Sto) : Prop := C f args K Q e s
def xCv (P : Program) (C : CT) (x : AV) (args : List AV) (K : AV → List AV → Sto → Prop) (Q : Kt) (_ : At K) (_ : At Q) (e : List AV) (s : Sto) : Prop := pcallv P C x args K Q e s
def xYl (C : CT) (g : Nat) (ps : List Nat) (as bd : Code) (args : List AV) (K : AV → List AV → Sto → Prop) (Q : Kt) (_ : At as) (_ : At bd) (_ : At K) (_ : At Q) (e : List AV) (s : Sto) : Prop := C.y g ps as bd args K Q e s
def xCo (C : CT) (t : Option (Nat × List AV)) (K : AV → List AV → Sto → Prop) (Q : Kt) (_ : At K) (_ : At Q) (e : List AV) (s : Sto) : Prop := pcallo C t K Q e s
def xS (N : List AV → Sto → Prop) (Q : Kt) (_ : At N) (_ : At Q) : Kt := fun x e s => seqK N Q x e s
def xB (id : Nat) (Q : Kt) (_ : At Q) : Kt := fun x e s => blkK id Q x e s
def xSc (Q : Kt) (_ : At Q) : Kt := fun x e s => scK Q x e s
def xR (P : Program) (rs : List ResultVar) (R : End → Prop) (_ : At rs) (_ : At R) : Kt := fun x e s => retK P rs R x e s
def sv (ops : List Oper) (e : List AV) (n : Nat) (b : Bool) : List AV := match (ops[n]?).bind (·.dst) with | some d => e.set d (.b b) | none => e
def xV (ops : List Oper) (e : List AV) (j : Nat) (_ : At ops) : AV := gv ops e j
def oK {α : Type} (o : Option α) (k : α → Prop) (_ : At k) : Prop := match o with | some x => k x | none => False

section
variable {P : Program} {C : CT} {O : Nat → Sch} {tb : Nat} {Q : Kt} {e : List AV} {s : Sto} {ops : List Oper} {K : List AV → Sto → Prop} {d : Option Nat} {type : Nat} {pos : String} {af : Array Edge} {g : Option (Nat × Bool)} {rest : List Oper}

theorem oK_some {α : Type} {x : α} {k : α → Prop} {i : At k} : oK (some x) k i = k x := id rfl
theorem w_skip {i : At Code.skip} {j : At Q} : xW P C O tb .skip Q i j e s = Q .normal e s := id rfl
theorem w_region {id' : Nat} {l : List Oper} {i : At (Code.region id' l.toArray false)} {j : At Q} : xW P C O tb (.region id' l.toArray false) Q i j e s = xO P C tb l l Q (mk _) (mk _) (mk _) e s := id rfl
theorem w_draw {id' : Nat} {l : List Oper} {i : At (Code.region id' l.toArray true)} {j : At Q} : xW P C O tb (.region id' l.toArray true) Q i j e s = (xQd l Q (mk _) (mk _) ∧ xJ P C tb l (O id') Q (mk _) (mk _) e s) := id rfl
theorem w_seq {x y : Code} {i : At (Code.seq x y)} {j : At Q} : xW P C O tb (.seq x y) Q i j e s = xW P C O tb x (xS (fun e s => xW P C O tb y Q (mk _) (mk _) e s) Q (mk _) (mk _)) (mk _) (mk _) e s := id rfl
theorem w_cond {c : Operand} {x y : Code} {i : At (Code.cond c x y)} {j : At Q} : xW P C O tb (.cond c x y) Q i j e s = ((aval e c).isBool ∧ if (aval e c).bool = true then xW P C O tb x Q (mk _) (mk _) e s else xW P C O tb y Q (mk _) (mk _) e s) := by
  simp only [xW, pwp]; cases (aval e c).bool <;> simp
theorem w_block {id' : Nat} {c : Code} {i : At (Code.block id' c)} {j : At Q} : xW P C O tb (.block id' c) Q i j e s = xW P C O tb c (xB id' Q (mk _)) (mk _) (mk _) e s := id rfl
theorem w_loop {c : Code} {i : At (Code.loop c)} {j : At Q} : xW P C O tb (.loop c) Q i j e s = xL P c Q (mk _) (mk _) e s := id rfl
theorem w_exit {id' : Nat} {i : At (Code.exit id')} {j : At Q} : xW P C O tb (.exit id') Q i j e s = Q (.exit id') e s := id rfl
theorem w_ret {i : At Code.ret} {j : At Q} : xW P C O tb .ret Q i j e s = Q .ret e s := id rfl
theorem w_label {l : Nat} {i : At (Code.label l)} {j : At Q} : xW P C O tb (.label l) Q i j e s = Q .normal e s := id rfl
theorem w_scope {c : Code} {i : At (Code.scope c)} {j : At Q} : xW P C O tb (.scope c) Q i j e s = xW P C O tb c (xSc Q (mk _)) (mk _) (mk _) e s := id rfl

theorem k_seqn {N : List AV → Sto → Prop} {i : At N} {j : At Q} : xS N Q i j .normal e s = N e s := id rfl
theorem k_seqr {N : List AV → Sto → Prop} {i : At N} {j : At Q} : xS N Q i j .ret e s = Q .ret e s := id rfl
theorem k_seqx {N : List AV → Sto → Prop} {i : At N} {j : At Q} {n : Nat} : xS N Q i j (.exit n) e s = Q (.exit n) e s := id rfl
theorem k_seqp {N : List AV → Sto → Prop} {i : At N} {j : At Q} {c : List PanicEntry} : xS N Q i j (.panic c) e s = Q (.panic c) e s := id rfl
theorem k_blkn {n : Nat} {j : At Q} : xB n Q j .normal e s = Q .normal e s := id rfl
theorem k_blkr {n : Nat} {j : At Q} : xB n Q j .ret e s = Q .ret e s := id rfl
theorem k_blkp {n : Nat} {j : At Q} {c : List PanicEntry} : xB n Q j (.panic c) e s = Q (.panic c) e s := id rfl
theorem k_blkx {n m : Nat} {j : At Q} : xB n Q j (.exit m) e s = if m = n then Q .normal e s else Q (.exit m) e s := id rfl
theorem k_scn {j : At Q} : xSc Q j .normal e s = Q .normal e s := id rfl
theorem k_scr {j : At Q} : xSc Q j .ret e s = Q .ret e s := id rfl
theorem k_scx {j : At Q} {n : Nat} : xSc Q j (.exit n) e s = Q (.exit n) e s := id rfl
theorem k_scp {j : At Q} {c : List PanicEntry} : xSc Q j (.panic c) e s = Q (.panic c) e s := id rfl
theorem k_retn {rs : List ResultVar} {R : End → Prop} {i : At rs} {j : At R} : xR P rs R i j .normal e s = (s.get 0 = some [] ∧ resAll P e s rs ∧ oK (AV.outs s (rs.map (resV P e s))) (fun ds => R (.ret (packD ds))) (mk _)) := by
  simp only [xR, retK, oK]; cases AV.outs s (rs.map (resV P e s)) <;> simp
theorem k_retr {rs : List ResultVar} {R : End → Prop} {i : At rs} {j : At R} : xR P rs R i j .ret e s = (s.get 0 = some [] ∧ resAll P e s rs ∧ oK (AV.outs s (rs.map (resV P e s))) (fun ds => R (.ret (packD ds))) (mk _)) := by
  simp only [xR, retK, oK]; cases AV.outs s (rs.map (resV P e s)) <;> simp
theorem k_retp {rs : List ResultVar} {R : End → Prop} {i : At rs} {j : At R} {c : List PanicEntry} : xR P rs R i j (.panic c) e s = (s.get 0 = some [] ∧ R (.pan c)) := id rfl

theorem o_nil {i : At ops} {j : At ([] : List Oper)} {k : At Q} : xO P C tb ops [] Q i j k e s = Q .normal e s := id rfl
theorem o_cons {op : Op} {i : At ops} {j} {k : At Q} : xO P C tb ops (⟨d, op, type, pos, af, none⟩ :: rest) Q i j k e s = xP P C tb ⟨d, op, type, pos, af, none⟩ (fun e s => xO P C tb ops rest Q (mk _) (mk _) (mk _) e s) Q (mk _) (mk _) (mk _) e s := id rfl
def gdK (x : AV) (want : Bool) (A B C : Prop) (_ : At A) (_ : At B) (_ : At C) : Prop :=
  match x with | .d (.v (.bool b)) => if (b == want) = true then A else B | .d (.v (.tuple ⟨[]⟩)) => C | _ => False
theorem gd_b {b want : Bool} {A B C : Prop} {i : At A} {j : At B} {k : At C} : gdK (.d (.v (.bool b))) want A B C i j k = if (b == want) = true then A else B := id rfl
theorem gd_no {want : Bool} {A B C : Prop} {i : At A} {j : At B} {k : At C} : gdK (.d (.v undef)) want A B C i j k = C := id rfl
theorem gd_ite {p : Prop} [Decidable p] {u v : Value} {want : Bool} {A B C : Prop} {i : At A} {j : At B} {k : At C} : gdK (.d (.v (if p then u else v))) want A B C i j k = if p then gdK (.d (.v u)) want A B C (mk _) (mk _) (mk _) else gdK (.d (.v v)) want A B C (mk _) (mk _) (mk _) := by split <;> rfl
theorem sv_eq {n : Nat} (h : (gv ops e n).isBool) : sv ops e n (gv ops e n).bool = e := by
  unfold gv at h ⊢; unfold sv
  cases hd : (ops[n]?).bind (·.dst) with
  | none => rfl
  | some d =>
    rw [hd] at h
    simp only at h ⊢
    cases he : e[d]? with
    | none => simp [List.getD, he] at h; exact h.elim
    | some x =>
      have hg : e.getD d .any = x := by simp [List.getD, he]
      rw [hg] at h ⊢
      have hx : x = .b x.bool := by
        cases x with
        | d y => cases y with
          | v z => cases z <;> first | rfl | exact h.elim
          | _ => exact h.elim
        | _ => exact h.elim
      rw [← hx]
      apply List.ext_getElem?
      intro i
      by_cases hi : d = i
      · subst hi
        have hlt : d < e.length := (List.getElem?_eq_some_iff.1 he).1
        rw [List.getElem?_set_self hlt, he]
      · rw [List.getElem?_set_ne hi]
theorem pop_k0 {o : Oper} (hk : k0 o.op = true) : pop P C tb o K Q e s = (ps P s [] o.op (aval e) ∧ K (eset e o.dst (pv P s o.op (aval e))) s) := by
  obtain ⟨dst, op, type, pos, after, guard⟩ := o
  cases op with
  | call c =>
    obtain ⟨cl, args, ts⟩ := c
    cases cl with
    | builtin b => cases b <;> first | (simp only [k0, k0call, Bool.false_eq_true] at hk; done) | simp [pop, hk]
    | value f => simp [k0, k0call] at hk
    | invoke x m => simp [k0, k0call] at hk
  | binOp op t x y t' =>
    have hn : ¬ isNilSl y = true := by intro h2; simp [k0, h2] at hk
    simp only [pop, if_neg hn, hk, true_and]
  | _ => first | (simp only [k0, Bool.false_eq_true] at hk; done) | simp [pop, k0]
theorem gdK_gd {x : AV} {want : Bool} {A B C : Prop} {i : At A} {j : At B} {k : At C} : gdK x want A B C i j k = (match x.gd with | some (some b) => if b = want then A else B | some none => C | none => False) := by
  cases x with
  | d y =>
    cases y with
    | v z =>
      cases z with
      | bool b => simp [gdK, AV.gd]
      | tuple us => obtain ⟨l⟩ := us; cases l <;> rfl
      | _ => rfl
    | _ => rfl
  | _ => rfl
theorem sv_eq' {n : Nat} {b : Bool} (h : (gv ops e n).gd = some (some b)) : sv ops e n b = e := by
  have h1 : (gv ops e n).isBool ∧ (gv ops e n).bool = b := by
    generalize gv ops e n = x at h
    unfold AV.gd at h
    split at h
    · cases h; exact ⟨trivial, rfl⟩
    · cases h
    · cases h
  have := sv_eq h1.1
  rwa [h1.2] at this
theorem o_guard {op : Op} {n : Nat} {want : Bool} {i : At ops} {j} {k : At Q} : xO P C tb ops (⟨d, op, type, pos, af, some (n, want)⟩ :: rest) Q i j k e s =
    gdK (xV ops e n (mk _)) want (xP P C tb ⟨d, op, type, pos, af, some (n, want)⟩ (fun e s => xO P C tb ops rest Q (mk _) (mk _) (mk _) e s) Q (mk _) (mk _) (mk _) (sv ops e n want) s)
      (xO P C tb ops rest Q (mk _) (mk _) (mk _) (eset (sv ops e n (!want)) d .no) s) (xO P C tb ops rest Q (mk _) (mk _) (mk _) (eset e d .no) s) (mk _) (mk _) (mk _) := by
  rw [gdK_gd]
  simp only [xO, xV, xP, pops]
  cases hz : (gv ops e n).gd with
  | none => rfl
  | some z =>
    cases z with
    | none =>
      have : ((none : Option Bool) == some want) = false := rfl
      simp only [this, gif_false, pguard, true_and, reduceCtorEq, false_implies, not_false_eq_true, true_implies]
      cases hk : k0 op <;> rfl
    | some b =>
      by_cases hw : b = want
      · subst hw
        have hs := sv_eq' hz
        simp only [beq_self_eq_true, if_true, hs, gif_true, pguard, true_implies, not_true_eq_false, false_implies, and_true]
        cases hk : k0 op with
        | true => simp only [pop_k0 (o := ⟨d, op, type, pos, af, some (n, b)⟩) hk]
        | false => rfl
      · have hn : b = !want := by cases b <;> cases want <;> simp_all
        have hs := sv_eq' hz
        rw [hn] at hs
        have h2 : ((some b : Option Bool) == some want) = false := by simpa using hw
        simp only [h2, hw, if_false, hs, gif_false, pguard, true_and, Option.some.injEq, false_implies, not_false_eq_true, true_implies]
        cases hk : k0 op <;> rfl
theorem qd_S {l : List Oper} {N : List AV → Sto → Prop} {i : At N} {j : At Q} {m : At l} {k} : xQd l (xS N Q i j) m k = xQd l Q (mk _) (mk _) := id rfl
theorem qd_B {l : List Oper} {n : Nat} {j : At Q} {m : At l} {k} : xQd l (xB n Q j) m k = xQd l Q (mk _) (mk _) := id rfl
theorem qd_Sc {l : List Oper} {j : At Q} {m : At l} {k} : xQd l (xSc Q j) m k = xQd l Q (mk _) (mk _) := id rfl
theorem qd_R {l : List Oper} {rs : List ResultVar} {R : End → Prop} {i : At rs} {j : At R} {m : At l} {k} : xQd l (xR P rs R i j) m k = True := propext ⟨fun _ => trivial, fun _ _ _ _ _ _ h => h⟩
theorem j_done {i : At ops} {j : At Q} : xJ P C tb ops .done Q i j e s = Q .normal e s := id rfl
theorem j_one {n : Nat} {r : Sch} {i : At ops} {j : At Q} : xJ P C tb ops (.one n r) Q i j e s = xF P C tb ops ops n (fun e s => xJ P C tb ops r Q (mk _) (mk _) e s) Q (mk _) (mk _) (mk _) (mk _) e s := id rfl
theorem j_alt {a b : Sch} {i : At ops} {j : At Q} : xJ P C tb ops (.alt a b) Q i j e s = (xJ P C tb ops a Q (mk _) (mk _) e s ∧ xJ P C tb ops b Q (mk _) (mk _) e s) := id rfl
theorem t_n {op : Op} {i : At ops} {o} {j : At K} {k : At Q} : xT P C tb ops ⟨d, op, type, pos, af, none⟩ K Q i o j k e s = xP P C tb ⟨d, op, type, pos, af, none⟩ K Q (mk _) (mk _) (mk _) e s := id rfl
theorem t_g {op : Op} {n : Nat} {want : Bool} {i : At ops} {o} {j : At K} {k : At Q} : xT P C tb ops ⟨d, op, type, pos, af, some (n, want)⟩ K Q i o j k e s =
    gdK (xV ops e n (mk _)) want (xP P C tb ⟨d, op, type, pos, af, some (n, want)⟩ K Q (mk _) (mk _) (mk _) (sv ops e n want) s)
      (K (eset (sv ops e n (!want)) d .no) s) (K (eset e d .no) s) (mk _) (mk _) (mk _) := by
  rw [gdK_gd]
  simp only [xT, xV, xP, pstep]
  cases hz : (gv ops e n).gd with
  | none => rfl
  | some z =>
    cases z with
    | none =>
      have : ((none : Option Bool) == some want) = false := rfl
      simp only [this, gif_false, pguard, true_and, reduceCtorEq, false_implies, not_false_eq_true, true_implies]
      cases hk : k0 op <;> rfl
    | some b =>
      by_cases hw : b = want
      · subst hw
        have hs := sv_eq' hz
        simp only [beq_self_eq_true, if_true, hs, gif_true, pguard, true_implies, not_true_eq_false, false_implies, and_true]
        cases hk : k0 op with
        | true => simp only [pop_k0 (o := ⟨d, op, type, pos, af, some (n, b)⟩) hk]
        | false => rfl
      · have hn : b = !want := by cases b <;> cases want <;> simp_all
        have hs := sv_eq' hz
        rw [hn] at hs
        have h2 : ((some b : Option Bool) == some want) = false := by simpa using hw
        simp only [h2, hw, if_false, hs, gif_false, pguard, true_and, Option.some.injEq, false_implies, not_false_eq_true, true_implies]
        cases hk : k0 op <;> rfl
theorem f0 {x0 : Oper} {l : List Oper} {i : At ops} {j} {m : At K} {k : At Q} : xF P C tb ops (x0 :: l) 0 K Q i j m k e s = xT P C tb ops x0 K Q (mk _) (mk _) (mk _) (mk _) e s := id rfl
theorem f1 {x0 x1 : Oper} {l : List Oper} {i : At ops} {j} {m : At K} {k : At Q} : xF P C tb ops (x0 :: x1 :: l) 1 K Q i j m k e s = xT P C tb ops x1 K Q (mk _) (mk _) (mk _) (mk _) e s := id rfl
theorem f2 {x0 x1 x2 : Oper} {l : List Oper} {i : At ops} {j} {m : At K} {k : At Q} : xF P C tb ops (x0 :: x1 :: x2 :: l) 2 K Q i j m k e s = xT P C tb ops x2 K Q (mk _) (mk _) (mk _) (mk _) e s := id rfl
theorem f3 {x0 x1 x2 x3 : Oper} {l : List Oper} {i : At ops} {j} {m : At K} {k : At Q} : xF P C tb ops (x0 :: x1 :: x2 :: x3 :: l) 3 K Q i j m k e s = xT P C tb ops x3 K Q (mk _) (mk _) (mk _) (mk _) e s := id rfl
theorem f4 {x0 x1 x2 x3 x4 : Oper} {l : List Oper} {i : At ops} {j} {m : At K} {k : At Q} : xF P C tb ops (x0 :: x1 :: x2 :: x3 :: x4 :: l) 4 K Q i j m k e s = xT P C tb ops x4 K Q (mk _) (mk _) (mk _) (mk _) e s := id rfl
theorem f5 {x0 x1 x2 x3 x4 x5 : Oper} {l : List Oper} {i : At ops} {j} {m : At K} {k : At Q} : xF P C tb ops (x0 :: x1 :: x2 :: x3 :: x4 :: x5 :: l) 5 K Q i j m k e s = xT P C tb ops x5 K Q (mk _) (mk _) (mk _) (mk _) e s := id rfl
theorem f6 {x0 x1 x2 x3 x4 x5 x6 : Oper} {l : List Oper} {i : At ops} {j} {m : At K} {k : At Q} : xF P C tb ops (x0 :: x1 :: x2 :: x3 :: x4 :: x5 :: x6 :: l) 6 K Q i j m k e s = xT P C tb ops x6 K Q (mk _) (mk _) (mk _) (mk _) e s := id rfl
theorem f7 {x0 x1 x2 x3 x4 x5 x6 x7 : Oper} {l : List Oper} {i : At ops} {j} {m : At K} {k : At Q} : xF P C tb ops (x0 :: x1 :: x2 :: x3 :: x4 :: x5 :: x6 :: x7 :: l) 7 K Q i j m k e s = xT P C tb ops x7 K Q (mk _) (mk _) (mk _) (mk _) e s := id rfl
theorem f8 {x0 x1 x2 x3 x4 x5 x6 x7 x8 : Oper} {l : List Oper} {i : At ops} {j} {m : At K} {k : At Q} : xF P C tb ops (x0 :: x1 :: x2 :: x3 :: x4 :: x5 :: x6 :: x7 :: x8 :: l) 8 K Q i j m k e s = xT P C tb ops x8 K Q (mk _) (mk _) (mk _) (mk _) e s := id rfl
theorem fm {x0 x1 x2 x3 x4 x5 x6 x7 x8 : Oper} {l : List Oper} {n : Nat} {i : At ops} {j} {m : At K} {k : At Q} : xF P C tb ops (x0 :: x1 :: x2 :: x3 :: x4 :: x5 :: x6 :: x7 :: x8 :: l) (n + 9) K Q i j m k e s = xF P C tb ops l n K Q (mk _) (mk _) (mk _) (mk _) e s := id rfl
theorem v_gv {n : Nat} {i : At ops} : xV ops e n i = match (ops[n]?).bind (·.dst) with | some d => e.getD d .any | none => .any := id rfl
theorem b_true {b : Bool} : (b == true) = b := by simp
theorem b_false {b : Bool} : (b == false) = !b := by simp

theorem k_move {x : Operand} : k0 (.move x) = true := rfl
theorem k_assign {x : Operand} : k0 (.assign x) = true := rfl
theorem k_pick {x y z : Operand} : k0 (.pick x y z) = true := rfl
theorem k_bin : (∀ {op : BinOp} {t t' : Nat} {x y : Operand}, k0 (.binOp op t x y t') = !isNilSl y) ∧ (∀ {n : Nat}, isNilSl (.tmp n) = false) ∧ (∀ {k : IntKind} {n : Int}, isNilSl (.const (.int k n)) = false) ∧ (∀ {b : Bool}, isNilSl (.const (.bool b)) = false) ∧ (∀ {b : ByteArray}, isNilSl (.const (.string b)) = false) ∧ isNilSl (.const .nilIface) = false ∧ (∀ {a : Option Addr}, isNilSl (.const (.pointer a)) = false) ∧ isNilSl (.const .nilFunc) = false ∧ isNilSl (.const (.slice none 0 0)) = true := ⟨rfl, rfl, rfl, rfl, rfl, rfl, rfl, rfl, rfl⟩
theorem k_un {op : UnOp} {t : Nat} {x : Operand} : k0 (.unOp op t x) = true := rfl
theorem k_conv {a b : Nat} {x : Operand} : k0 (.convert a b x) = true := rfl
theorem k_fieldAddr {a b : Nat} {x : Operand} : k0 (.fieldAddr a x b) = true := rfl
theorem k_field {a b : Nat} {x : Operand} : k0 (.field a x b) = true := rfl
theorem k_nil {x : Operand} : k0 (.nilCheck x) = true := rfl
theorem k_ixa {a : Nat} {x y : Operand} : k0 (.indexAddr a x y) = true := rfl
theorem k_ix {a : Nat} {x y : Operand} : k0 (.index a x y) = true := rfl
theorem k_load {a : Nat} {x : Operand} : k0 (.load a x) = true := rfl
theorem k_ext {a : Nat} {x : Operand} : k0 (.extract x a) = true := rfl
theorem k_mki {a : Nat} {x : Operand} : k0 (.makeInterface a x) = true := rfl
theorem k_mkf {f : Fn} {x y : Array Operand} : k0 (.makeFunc f x y) = true := rfl
theorem k_build {a : Nat} {x : Array (Nat × Operand)} : k0 (.build a x) = true := rfl
theorem k_slice {a : Nat} {x : Operand} {y z u : Option Operand} : k0 (.slice a x y z u) = true := rfl
theorem k_asrt {a b : Nat} {x : Operand} {c : Bool} : k0 (.typeAssert x a b c) = true := rfl
theorem k_len {x : Array Operand} {y : Array TypeId} : k0 (.call ⟨.builtin .len, x, y⟩) = true := rfl
theorem k_max {x : Array Operand} {y : Array TypeId} : k0 (.call ⟨.builtin .max, x, y⟩) = true := rfl
theorem k_min {x : Array Operand} {y : Array TypeId} : k0 (.call ⟨.builtin .min, x, y⟩) = true := rfl
theorem k_app {x : Array Operand} {y : Array TypeId} : k0 (.call ⟨.builtin .append, x, y⟩) = false := rfl
theorem k_val {f : Operand} {x : Array Operand} {y : Array TypeId} : k0 (.call ⟨.value f, x, y⟩) = false := rfl
theorem k_inv {f : Operand} {m : String} {x : Array Operand} {y : Array TypeId} : k0 (.call ⟨.invoke f m, x, y⟩) = false := rfl
theorem k_bs {a b : Nat} {x : Array (Nat × Operand)} : k0 (.buildSlice a b x) = false := rfl
theorem k_mk {a : Nat} {x y : Operand} : k0 (.makeSlice a x y) = false := rfl
theorem k_box {a : Nat} {x : Operand} : k0 (.box a x) = false := rfl
theorem k_alloc {a : Nat} : k0 (.alloc a) = false := rfl
theorem k_store {a : Nat} {x y : Operand} : k0 (.store a x y) = false := rfl
theorem p_move {m2 : At K} {m3 : At Q} {x : Operand} {m1 : At (⟨d, .move x, type, pos, af, g⟩ : Oper)} : xP P C tb ⟨d, .move x, type, pos, af, g⟩ K Q m1 m2 m3 e s = K (eset e d (aval e x)) s := by simp [xP, pop, k0, ps, pv]
theorem p_assign {m2 : At K} {m3 : At Q} {x : Operand} {m1 : At (⟨d, .assign x, type, pos, af, g⟩ : Oper)} : xP P C tb ⟨d, .assign x, type, pos, af, g⟩ K Q m1 m2 m3 e s = K (eset e d (aval e x)) s := by simp [xP, pop, k0, ps, pv]
theorem p_pick {m2 : At K} {m3 : At Q} {c x y : Operand} {m1 : At (⟨d, .pick c x y, type, pos, af, g⟩ : Oper)} : xP P C tb ⟨d, .pick c x y, type, pos, af, g⟩ K Q m1 m2 m3 e s = ((aval e c).isBool ∧ K (eset e d (gif (aval e c).bool (aval e x) (aval e y))) s) := by simp [xP, pop, k0, ps, pv]
theorem p_bint {m2 : At K} {m3 : At Q} {op : BinOp} {t t' : Nat} {x : Operand} {n : Nat} {m1 : At (⟨d, .binOp op t x (.tmp n) t', type, pos, af, g⟩ : Oper)} : xP P C tb ⟨d, .binOp op t x (.tmp n) t', type, pos, af, g⟩ K Q m1 m2 m3 e s = (binS P op t (aval e x) (aval e (.tmp n)) ∧ K (eset e d (binV P op t (aval e x) (aval e (.tmp n)))) s) := by simp [xP, pop, k0, isNilSl, ps, pv, nilO]
theorem p_bini {m2 : At K} {m3 : At Q} {op : BinOp} {t t' : Nat} {x : Operand} {k : IntKind} {n : Int} {m1 : At (⟨d, .binOp op t x (.const (.int k n)) t', type, pos, af, g⟩ : Oper)} : xP P C tb ⟨d, .binOp op t x (.const (.int k n)) t', type, pos, af, g⟩ K Q m1 m2 m3 e s = (binS P op t (aval e x) (aval e (.const (.int k n))) ∧ K (eset e d (binV P op t (aval e x) (aval e (.const (.int k n))))) s) := by simp [xP, pop, k0, isNilSl, ps, pv, nilO]
theorem p_binb {m2 : At K} {m3 : At Q} {op : BinOp} {t t' : Nat} {x : Operand} {b : Bool} {m1 : At (⟨d, .binOp op t x (.const (.bool b)) t', type, pos, af, g⟩ : Oper)} : xP P C tb ⟨d, .binOp op t x (.const (.bool b)) t', type, pos, af, g⟩ K Q m1 m2 m3 e s = (binS P op t (aval e x) (aval e (.const (.bool b))) ∧ K (eset e d (binV P op t (aval e x) (aval e (.const (.bool b))))) s) := by simp [xP, pop, k0, isNilSl, ps, pv, nilO]
theorem p_bins {m2 : At K} {m3 : At Q} {op : BinOp} {t t' : Nat} {x : Operand} {b : ByteArray} {m1 : At (⟨d, .binOp op t x (.const (.string b)) t', type, pos, af, g⟩ : Oper)} : xP P C tb ⟨d, .binOp op t x (.const (.string b)) t', type, pos, af, g⟩ K Q m1 m2 m3 e s = (binS P op t (aval e x) (aval e (.const (.string b))) ∧ K (eset e d (binV P op t (aval e x) (aval e (.const (.string b))))) s) := by simp [xP, pop, k0, isNilSl, ps, pv, nilO]
theorem p_bnif {m2 : At K} {m3 : At Q} {op : BinOp} {t t' : Nat} {x : Operand} {m1 : At (⟨d, .binOp op t x (.const .nilIface) t', type, pos, af, g⟩ : Oper)} : xP P C tb ⟨d, .binOp op t x (.const .nilIface) t', type, pos, af, g⟩ K Q m1 m2 m3 e s = (((nilTy P t = 1 ∧ (nilX (aval e x)).1 = 1) ∧ isEqB op) ∧ K (eset e d (nilV op (aval e x))) s) := by
  have h0 : ∀ (z : Value), (∀ cs, z ≠ .agg cs) → aval e (.const z) = .d (.v z) := fun z hz => by cases z <;> first | rfl | exact absurd rfl (hz _)
  simp [xP, pop, k0, isNilSl, ps, pv, nilO, nilS, h0]
theorem p_bnpt {m2 : At K} {m3 : At Q} {op : BinOp} {t t' : Nat} {x : Operand} {m1 : At (⟨d, .binOp op t x (.const (.pointer none)) t', type, pos, af, g⟩ : Oper)} : xP P C tb ⟨d, .binOp op t x (.const (.pointer none)) t', type, pos, af, g⟩ K Q m1 m2 m3 e s = (((nilTy P t = 2 ∧ (nilX (aval e x)).1 = 2) ∧ isEqB op) ∧ K (eset e d (nilV op (aval e x))) s) := by
  have h0 : ∀ (z : Value), (∀ cs, z ≠ .agg cs) → aval e (.const z) = .d (.v z) := fun z hz => by cases z <;> first | rfl | exact absurd rfl (hz _)
  simp [xP, pop, k0, isNilSl, ps, pv, nilO, nilS, h0]
theorem p_bnfn {m2 : At K} {m3 : At Q} {op : BinOp} {t t' : Nat} {x : Operand} {m1 : At (⟨d, .binOp op t x (.const .nilFunc) t', type, pos, af, g⟩ : Oper)} : xP P C tb ⟨d, .binOp op t x (.const .nilFunc) t', type, pos, af, g⟩ K Q m1 m2 m3 e s = (((nilTy P t = 4 ∧ (nilX (aval e x)).1 = 4) ∧ isEqB op) ∧ K (eset e d (nilV op (aval e x))) s) := by
  have h0 : ∀ (z : Value), (∀ cs, z ≠ .agg cs) → aval e (.const z) = .d (.v z) := fun z hz => by cases z <;> first | rfl | exact absurd rfl (hz _)
  simp [xP, pop, k0, isNilSl, ps, pv, nilO, nilS, h0]
theorem p_un {m2 : At K} {m3 : At Q} {op : UnOp} {t : Nat} {x : Operand} {m1 : At (⟨d, .unOp op t x, type, pos, af, g⟩ : Oper)} : xP P C tb ⟨d, .unOp op t x, type, pos, af, g⟩ K Q m1 m2 m3 e s = (unVs op (aval e x) ∧ K (eset e d (unV op (aval e x))) s) := by simp [xP, pop, k0, ps, pv]
theorem p_field {m2 : At K} {m3 : At Q} {t f : Nat} {x : Operand} {m1 : At (⟨d, .field t x f, type, pos, af, g⟩ : Oper)} : xP P C tb ⟨d, .field t x f, type, pos, af, g⟩ K Q m1 m2 m3 e s = (ps P s [] (.field t x f) (aval e) ∧ K (eset e d (pv P s (.field t x f) (aval e))) s) := by simp [xP, pop, k0]
theorem p_fieldAddr {m2 : At K} {m3 : At Q} {t f : Nat} {x : Operand} {m1 : At (⟨d, .fieldAddr t x f, type, pos, af, g⟩ : Oper)} : xP P C tb ⟨d, .fieldAddr t x f, type, pos, af, g⟩ K Q m1 m2 m3 e s = (((fo P t f).isSome = true ∧ (aval e x).isPtr) ∧ K (eset e d (addF (aval e x) ((fo P t f).getD 0))) s) := by simp [xP, pop, k0, ps, pv]
theorem p_indexAddr {m2 : At K} {m3 : At Q} {t : Nat} {x i : Operand} {m1 : At (⟨d, .indexAddr t x i, type, pos, af, g⟩ : Oper)} : xP P C tb ⟨d, .indexAddr t x i, type, pos, af, g⟩ K Q m1 m2 m3 e s = (ps P s [] (.indexAddr t x i) (aval e) ∧ K (eset e d (pv P s (.indexAddr t x i) (aval e))) s) := by simp [xP, pop, k0]
theorem p_load {m2 : At K} {m3 : At Q} {t : Nat} {x : Operand} {m1 : At (⟨d, .load t x, type, pos, af, g⟩ : Oper)} : xP P C tb ⟨d, .load t x, type, pos, af, g⟩ K Q m1 m2 m3 e s = (loadS P s [] t (aval e x) ∧ K (eset e d (loadV P s t (aval e x))) s) := by simp [xP, pop, k0, ps, pv]
theorem p_extract {m2 : At K} {m3 : At Q} {x : Operand} {i : Nat} {m1 : At (⟨d, .extract x i, type, pos, af, g⟩ : Oper)} : xP P C tb ⟨d, .extract x i, type, pos, af, g⟩ K Q m1 m2 m3 e s = (extS (aval e x) i ∧ K (eset e d (extV (aval e x) i)) s) := by simp [xP, pop, k0, ps, pv]
theorem p_nilCheck {m2 : At K} {m3 : At Q} {x : Operand} {m1 : At (⟨d, .nilCheck x, type, pos, af, g⟩ : Oper)} : xP P C tb ⟨d, .nilCheck x, type, pos, af, g⟩ K Q m1 m2 m3 e s = ((aval e x).isPtr ∧ K (eset e d (aval e x)) s) := by simp [xP, pop, k0, ps, pv]
theorem p_convert {m2 : At K} {m3 : At Q} {a b : Nat} {x : Operand} {m1 : At (⟨d, .convert a b x, type, pos, af, g⟩ : Oper)} : xP P C tb ⟨d, .convert a b x, type, pos, af, g⟩ K Q m1 m2 m3 e s = (((intTy P b).isSome = true ∧ (P.underlying a).isSome = true ∧ (aval e x).isInt) ∧ K (eset e d (cvI P b (aval e x))) s) := by simp [xP, pop, k0, ps, pv]
theorem p_build {m2 : At K} {m3 : At Q} {t : Nat} {parts : Array (Nat × Operand)} {m1 : At (⟨d, .build t parts, type, pos, af, g⟩ : Oper)} : xP P C tb ⟨d, .build t parts, type, pos, af, g⟩ K Q m1 m2 m3 e s = (ps P s [] (.build t parts) (aval e) ∧ K (eset e d (pv P s (.build t parts) (aval e))) s) := by simp [xP, pop, k0]
theorem p_callf {m2 : At K} {m3 : At Q} {f : Operand} {args : Array Operand} {ts : Array TypeId} {m1 : At (⟨d, .call ⟨.value f, args, ts⟩, type, pos, af, g⟩ : Oper)} : xP P C tb ⟨d, .call ⟨.value f, args, ts⟩, type, pos, af, g⟩ K Q m1 m2 m3 e s = xCv P C (aval e f) (args.toList.map (aval e)) (fun r e s => K (eset e d r) s) Q (mk _) (mk _) e s := id rfl
theorem cv_d {x : D} {args : List AV} {K : AV → List AV → Sto → Prop} {i : At K} {j : At Q} : xCv P C (.d x) args K Q i j e s = xCo C (target P (.d x) args) K Q (mk _) (mk _) e s := id rfl
theorem cv_clo {fn : Fn} {a b args : List AV} {K : AV → List AV → Sto → Prop} {i : At K} {j : At Q} : xCv P C (.clo fn a b) args K Q i j e s = xCo C (target P (.clo fn a b) args) K Q (mk _) (mk _) e s := id rfl
theorem cv_y {G : Nat} {ps : List Nat} {as bd : Code} {args : List AV} {K : AV → List AV → Sto → Prop} {i : At K} {j : At Q} : xCv P C (.yld G ps as bd P.funcs.size) args K Q i j e s = xYl C G ps as bd args K Q (mk _) (mk _) (mk _) (mk _) e s := by
  simp [xCv, pcallv, xYl]
theorem p_calli {m2 : At K} {m3 : At Q} {x : Operand} {m : String} {args : Array Operand} {ts : Array TypeId} {m1 : At (⟨d, .call ⟨.invoke x m, args, ts⟩, type, pos, af, g⟩ : Oper)} : xP P C tb ⟨d, .call ⟨.invoke x m, args, ts⟩, type, pos, af, g⟩ K Q m1 m2 m3 e s = xCo C (invTarget P (aval e x) m (args.toList.map (aval e))) (fun r e s => K (eset e d r) s) Q (mk _) (mk _) e s := id rfl
theorem p_len {m2 : At K} {m3 : At Q} {x : Operand} {t : Nat} {m1 : At (⟨d, .call ⟨.builtin .len, #[x], #[t]⟩, type, pos, af, g⟩ : Oper)} : xP P C tb ⟨d, .call ⟨.builtin .len, #[x], #[t]⟩, type, pos, af, g⟩ K Q m1 m2 m3 e s =
    ((if isStringTy P t = true then (aval e x).isStr else (isSliceTy P t = true ∧ (aval e x).isSlice)) ∧ K (eset e d (if isStringTy P t = true then .i (aval e x).str.size else .i (aval e x).rows.length)) s) := by simp [xP, pop, k0, k0call, ps, pv, callS, callV]
theorem p_max {m2 : At K} {m3 : At Q} {x y : Operand} {ts : Array Nat} {m1 : At (⟨d, .call ⟨.builtin .max, #[x, y], ts⟩, type, pos, af, g⟩ : Oper)} : xP P C tb ⟨d, .call ⟨.builtin .max, #[x, y], ts⟩, type, pos, af, g⟩ K Q m1 m2 m3 e s =
    (((aval e x).isInt ∧ (aval e y).isInt) ∧ K (eset e d (.d (.v (.int (aval e x).kind (max (aval e x).int (aval e y).int))))) s) := by simp [xP, pop, k0, k0call, ps, pv, callS, callV]
theorem p_min {m2 : At K} {m3 : At Q} {x y : Operand} {ts : Array Nat} {m1 : At (⟨d, .call ⟨.builtin .min, #[x, y], ts⟩, type, pos, af, g⟩ : Oper)} : xP P C tb ⟨d, .call ⟨.builtin .min, #[x, y], ts⟩, type, pos, af, g⟩ K Q m1 m2 m3 e s =
    (((aval e x).isInt ∧ (aval e y).isInt) ∧ K (eset e d (.d (.v (.int (aval e x).kind (min (aval e x).int (aval e y).int))))) s) := by simp [xP, pop, k0, k0call, ps, pv, callS, callV]

theorem t_func {f : Nat} {args : List AV} : target P (.d (.v (.func (.func f) #[] #[]))) args = some (f, args) := by simp [target]
theorem t_some {f : Nat} {args : List AV} {K : AV → List AV → Sto → Prop} {i : At K} {j : At Q} : xCo C (some (f, args)) K Q i j e s = xC C f args K Q (mk _) (mk _) e s := id rfl

theorem a_tmp {t : Nat} : aval e (.tmp t) = e.getD t .any := id rfl
theorem a_const {v : Value} : aval e (.const v) = cst v := id rfl
theorem a_func {f : Nat} : aval e (.func f) = .d (.v (.func (.func f) #[] #[])) := id rfl
theorem c_int {k : IntKind} {n : Int} : cst (.int k n) = .d (.v (.int k n)) := id rfl
theorem c_bool {b : Bool} : cst (.bool b) = .d (.v (.bool b)) := id rfl
theorem c_str {b : ByteArray} : cst (.string b) = .d (.v (.string b)) := id rfl
theorem c_sl {a : Option Addr} {n c : Nat} : cst (.slice a n c) = .d (.v (.slice a n c)) := id rfl
theorem c_nil : cst .nilIface = .d (.v .nilIface) := id rfl
theorem c_ptr {a : Option Addr} : cst (.pointer a) = .d (.v (.pointer a)) := id rfl
theorem e_some {i : Nat} {x : AV} : eset e (some i) x = e.set i x := id rfl
theorem e_none {x : AV} : eset e none x = e := id rfl
theorem g0 {α : Type} {x0 y : α} {l : List α} : (x0 :: l).getD 0 y = x0 := id rfl
theorem s0 {α : Type} {x0 y : α} {l : List α} : (x0 :: l).set 0 y = y :: l := id rfl
theorem g1 {α : Type} {x0 x1 y : α} {l : List α} : (x0 :: x1 :: l).getD 1 y = x1 := id rfl
theorem s1 {α : Type} {x0 x1 y : α} {l : List α} : (x0 :: x1 :: l).set 1 y = x0 :: y :: l := id rfl
theorem g2 {α : Type} {x0 x1 x2 y : α} {l : List α} : (x0 :: x1 :: x2 :: l).getD 2 y = x2 := id rfl
theorem s2 {α : Type} {x0 x1 x2 y : α} {l : List α} : (x0 :: x1 :: x2 :: l).set 2 y = x0 :: x1 :: y :: l := id rfl
theorem g3 {α : Type} {x0 x1 x2 x3 y : α} {l : List α} : (x0 :: x1 :: x2 :: x3 :: l).getD 3 y = x3 := id rfl
theorem s3 {α : Type} {x0 x1 x2 x3 y : α} {l : List α} : (x0 :: x1 :: x2 :: x3 :: l).set 3 y = x0 :: x1 :: x2 :: y :: l := id rfl
theorem g4 {α : Type} {x0 x1 x2 x3 x4 y : α} {l : List α} : (x0 :: x1 :: x2 :: x3 :: x4 :: l).getD 4 y = x4 := id rfl
theorem s4 {α : Type} {x0 x1 x2 x3 x4 y : α} {l : List α} : (x0 :: x1 :: x2 :: x3 :: x4 :: l).set 4 y = x0 :: x1 :: x2 :: x3 :: y :: l := id rfl
theorem g5 {α : Type} {x0 x1 x2 x3 x4 x5 y : α} {l : List α} : (x0 :: x1 :: x2 :: x3 :: x4 :: x5 :: l).getD 5 y = x5 := id rfl
theorem s5 {α : Type} {x0 x1 x2 x3 x4 x5 y : α} {l : List α} : (x0 :: x1 :: x2 :: x3 :: x4 :: x5 :: l).set 5 y = x0 :: x1 :: x2 :: x3 :: x4 :: y :: l := id rfl
theorem g6 {α : Type} {x0 x1 x2 x3 x4 x5 x6 y : α} {l : List α} : (x0 :: x1 :: x2 :: x3 :: x4 :: x5 :: x6 :: l).getD 6 y = x6 := id rfl
theorem s6 {α : Type} {x0 x1 x2 x3 x4 x5 x6 y : α} {l : List α} : (x0 :: x1 :: x2 :: x3 :: x4 :: x5 :: x6 :: l).set 6 y = x0 :: x1 :: x2 :: x3 :: x4 :: x5 :: y :: l := id rfl
theorem g7 {α : Type} {x0 x1 x2 x3 x4 x5 x6 x7 y : α} {l : List α} : (x0 :: x1 :: x2 :: x3 :: x4 :: x5 :: x6 :: x7 :: l).getD 7 y = x7 := id rfl
theorem s7 {α : Type} {x0 x1 x2 x3 x4 x5 x6 x7 y : α} {l : List α} : (x0 :: x1 :: x2 :: x3 :: x4 :: x5 :: x6 :: x7 :: l).set 7 y = x0 :: x1 :: x2 :: x3 :: x4 :: x5 :: x6 :: y :: l := id rfl
theorem g8 {α : Type} {x0 x1 x2 x3 x4 x5 x6 x7 x8 y : α} {l : List α} : (x0 :: x1 :: x2 :: x3 :: x4 :: x5 :: x6 :: x7 :: x8 :: l).getD 8 y = x8 := id rfl
theorem s8 {α : Type} {x0 x1 x2 x3 x4 x5 x6 x7 x8 y : α} {l : List α} : (x0 :: x1 :: x2 :: x3 :: x4 :: x5 :: x6 :: x7 :: x8 :: l).set 8 y = x0 :: x1 :: x2 :: x3 :: x4 :: x5 :: x6 :: x7 :: y :: l := id rfl
theorem gm {α : Type} {x0 x1 x2 x3 x4 x5 x6 x7 x8 y : α} {l : List α} {n : Nat} : (x0 :: x1 :: x2 :: x3 :: x4 :: x5 :: x6 :: x7 :: x8 :: l).getD (n + 9) y = l.getD n y := id rfl
theorem sm {α : Type} {x0 x1 x2 x3 x4 x5 x6 x7 x8 y : α} {l : List α} {n : Nat} : (x0 :: x1 :: x2 :: x3 :: x4 :: x5 :: x6 :: x7 :: x8 :: l).set (n + 9) y = x0 :: x1 :: x2 :: x3 :: x4 :: x5 :: x6 :: x7 :: x8 :: l.set n y := id rfl
theorem r_int {k : IntKind} {n : Int} : AV.int (.d (.v (.int k n))) = n := id rfl
theorem r_kind {k : IntKind} {n : Int} : AV.kind (.d (.v (.int k n))) = k := id rfl
theorem r_bool {b : Bool} : AV.bool (.d (.v (.bool b))) = b := id rfl
theorem r_isInt {k : IntKind} {n : Int} : AV.isInt (.d (.v (.int k n))) = True := id rfl
theorem r_isBool {b : Bool} : AV.isBool (.d (.v (.bool b))) = True := id rfl
theorem r_bool_ite {p : Prop} [Decidable p] {x y : AV} : AV.bool (if p then x else y) = if p then x.bool else y.bool := by split <;> rfl
theorem r_int_ite {p : Prop} [Decidable p] {x y : AV} : AV.int (if p then x else y) = if p then x.int else y.int := by split <;> rfl
theorem r_isBool_ite {p : Prop} [Decidable p] {x y : AV} : AV.isBool (if p then x else y) = if p then x.isBool else y.isBool := by split <;> rfl
theorem r_isInt_ite {p : Prop} [Decidable p] {x y : AV} : AV.isInt (if p then x else y) = if p then x.isInt else y.isInt := by split <;> rfl
theorem r_ite_d {p : Prop} [Decidable p] {x y : D} : (if p then AV.d x else AV.d y) = AV.d (if p then x else y) := by split <;> rfl
theorem r_ite_v {p : Prop} [Decidable p] {x y : Value} : (if p then D.v x else D.v y) = D.v (if p then x else y) := by split <;> rfl
theorem r_ite_bool {p : Prop} [Decidable p] {x y : Bool} : (if p then Value.bool x else Value.bool y) = Value.bool (if p then x else y) := by split <;> rfl
theorem r_ite_int {p : Prop} [Decidable p] {k : IntKind} {x y : Int} : (if p then Value.int k x else Value.int k y) = Value.int k (if p then x else y) := by split <;> rfl

theorem wrap_ok {n : Int} (h1 : -9223372036854775808 ≤ n) (h2 : n ≤ 9223372036854775807) : IntKind.i64.wrap n = n := IntWalk.i64_in n (by omega)
end
end Go.E

namespace Go.E
open Go Go.RowKit

section
variable {P : Program} {C : CT} {tb : Nat} {Q : Kt} {e : List AV} {s : Sto} {K : List AV → Sto → Prop} {d : Nat} {type : Nat} {pos : String} {af : Array Edge} {g : Option (Nat × Bool)}
theorem p_box {m2 : At K} {m3 : At Q} {t : Nat} {x : Operand} {m1 : At (⟨some d, .box t x, type, pos, af, g⟩ : Oper)} : xP P C tb ⟨some d, .box t x, type, pos, af, g⟩ K Q m1 m2 m3 e s =
    oK (aval e x).cells? (fun cs => tb + d + 1 < 1000000000 ∧ AV.mens (tb + d + 1) cs = false ∧ K ((e.map (AV.kill (tb + d + 1))).set d (.ref (tb + d + 1) 0)) ((s.kill (tb + d + 1)).ins (tb + d + 1) cs)) (mk _) := by
  simp only [xP, pop, oK]; cases (aval e x).cells? <;> rfl
theorem p_alloc {m2 : At K} {m3 : At Q} {t : Nat} {m1 : At (⟨some d, .alloc t, type, pos, af, g⟩ : Oper)} : xP P C tb ⟨some d, .alloc t, type, pos, af, g⟩ K Q m1 m2 m3 e s =
    oK (zcells P t) (fun cs => tb + d + 1 < 1000000000 ∧ K ((e.map (AV.kill (tb + d + 1))).set d (.ref (tb + d + 1) 0)) ((s.kill (tb + d + 1)).ins (tb + d + 1) (cs.map .d))) (mk _) := by
  simp only [xP, pop, oK]; cases zcells P t <;> rfl
def frK (P : Program) (t t' : Nat) (x y : AV) (d : Nat) (K : List AV → Sto → Prop) (_ : At K) (e : List AV) (s : Sto) : Prop :=
  match x with
  | .own g el' sz' rows => oK (rowTy P t) (fun z => (t = t' ∧ g ≠ 0 ∧ s.get g = none ∧ el' = z.1 ∧ sz' = z.2.1 ∧ y.isSl z.2.1 ∧ (rows.length + y.rows.length) * z.2.2 ≤ 140737488355328 ∧ rows.length + y.rows.length ≤ 4611686018427387904) ∧
        K ((e.map (AV.frz g z.1 z.2.1)).set d (.d (.sl z.2.1 (rows ++ y.rows)))) (s.frz g z.1 z.2.1)) (mk _)
  | _ => False
theorem fr_own {t t' g el' sz' d : Nat} {rows : List (List D)} {y : AV} {m : At K} : frK P t t' (.own g el' sz' rows) y d K m e s = oK (rowTy P t) (fun z => (t = t' ∧ g ≠ 0 ∧ s.get g = none ∧ el' = z.1 ∧ sz' = z.2.1 ∧ y.isSl z.2.1 ∧ (rows.length + y.rows.length) * z.2.2 ≤ 140737488355328 ∧ rows.length + y.rows.length ≤ 4611686018427387904) ∧
        K ((e.map (AV.frz g z.1 z.2.1)).set d (.d (.sl z.2.1 (rows ++ y.rows)))) (s.frz g z.1 z.2.1)) (mk _) := id rfl
theorem p_append {m2 : At K} {m3 : At Q} {x y : Operand} {t t' : Nat} {m1 : At (⟨some d, .call ⟨.builtin .append, #[x, y], #[t, t']⟩, type, pos, af, g⟩ : Oper)} : xP P C tb ⟨some d, .call ⟨.builtin .append, #[x, y], #[t, t']⟩, type, pos, af, g⟩ K Q m1 m2 m3 e s =
    if CT.z C d = true then frK P t t' (aval e x) (aval e y) d K (mk _) e s else
    oK (rowTy P t) (fun z => t = t' ∧ (aval e x).isApp z.1 z.2.1 ∧ (aval e y).isSl z.2.1 ∧ ((aval e x).rows.length + (aval e y).rows.length) * z.2.2 ≤ 140737488355328 ∧ (aval e x).rows.length + (aval e y).rows.length ≤ 4611686018427387904 ∧
      K ((e.map (AV.kill (tagOf (tb + d + 1) (aval e x)))).set d (.own (tagOf (tb + d + 1) (aval e x)) z.1 z.2.1 ((aval e x).rows ++ (aval e y).rows))) (s.kill (tagOf (tb + d + 1) (aval e x)))) (mk _) := by
  simp only [xP, pop, oK, List.getD, Array.getD_eq_getD_getElem?]
  cases hz : C.z d with
  | false =>
    cases h : rowTy P t with
    | none => simp [h]
    | some z => obtain ⟨a, b, c⟩ := z; simp [h, hz]
  | true =>
    cases h : rowTy P t with
    | none => simp only [h, hz, if_true, frK, oK, List.getElem?_toArray, List.getElem?_cons_zero, Option.getD_some] <;> (split <;> rfl)
    | some z => obtain ⟨a, b, c⟩ := z; simp only [h, hz, if_true, frK, oK, List.getElem?_toArray, List.getElem?_cons_zero, Option.getD_some] <;> (generalize aval e x = q; cases q <;> rfl)
def bzK (P : Program) (t n d tb : Nat) (parts : List (Nat × Operand)) (K : List AV → Sto → Prop) (_ : At K) (e : List AV) (s : Sto) : Prop :=
  oK (rowTy P t) (fun z => oK (zcells P z.1) (fun zc => (okFz s (ownsP (aval e) parts) ∧ zc.all D.one = true ∧ n * z.2.1 ≤ 16777216 ∧ bsS (datA (aval e)) z.2.1 n parts) ∧
        K (((frzEs (ownsP (aval e) parts) e).map (AV.kill (tb + d + 1))).set d (.own (tb + d + 1) z.1 z.2.1 (bsV (datA (aval e)) parts (List.replicate n zc)))) ((frzSs (ownsP (aval e) parts) s).kill (tb + d + 1))) (mk _)) (mk _)
theorem bz_eq {t n d tb : Nat} {parts : List (Nat × Operand)} {m : At K} : bzK P t n d tb parts K m e s = oK (rowTy P t) (fun z => oK (zcells P z.1) (fun zc => (okFz s (ownsP (aval e) parts) ∧ zc.all D.one = true ∧ n * z.2.1 ≤ 16777216 ∧ bsS (datA (aval e)) z.2.1 n parts) ∧
        K (((frzEs (ownsP (aval e) parts) e).map (AV.kill (tb + d + 1))).set d (.own (tb + d + 1) z.1 z.2.1 (bsV (datA (aval e)) parts (List.replicate n zc)))) ((frzSs (ownsP (aval e) parts) s).kill (tb + d + 1))) (mk _)) (mk _) := id rfl
theorem p_bs {m2 : At K} {m3 : At Q} {t n : Nat} {parts : Array (Nat × Operand)} {m1 : At (⟨some d, .buildSlice t n parts, type, pos, af, g⟩ : Oper)} : xP P C tb ⟨some d, .buildSlice t n parts, type, pos, af, g⟩ K Q m1 m2 m3 e s =
    if CT.z C d = true then bzK P t n d tb parts.toList K (mk _) e s else
    oK (rowTy P t) (fun z => oK (zcells P z.1) (fun zc => zc.all D.one = true ∧ n * z.2.1 ≤ 16777216 ∧ bsS (aval e) z.2.1 n parts.toList ∧
        K ((e.map (AV.kill (tb + d + 1))).set d (.own (tb + d + 1) z.1 z.2.1 (bsV (aval e) parts.toList (List.replicate n zc)))) (s.kill (tb + d + 1))) (mk _)) (mk _) := by
  simp only [xP, pop, oK, bzK]
  cases h : rowTy P t with
  | none => cases hz : C.z d <;> rfl
  | some z =>
    obtain ⟨a, b, c⟩ := z
    simp only
    cases zcells P a with
    | none => cases hz : C.z d <;> rfl
    | some zc => cases hz : C.z d <;> rfl
theorem p_make {m2 : At K} {m3 : At Q} {t : Nat} {x y : Operand} {m1 : At (⟨some d, .makeSlice t x y, type, pos, af, g⟩ : Oper)} : xP P C tb ⟨some d, .makeSlice t x y, type, pos, af, g⟩ K Q m1 m2 m3 e s =
    oK (rowTy P t) (fun z => oK (zcells P z.1) (fun zc => zc.all D.one = true ∧ (aval e x).isInt ∧ (aval e y).isInt ∧ ((aval e y).int = (aval e x).int ∨ (aval e x).int ≤ (aval e y).int) ∧ 0 ≤ (aval e x).int ∧ (aval e y).int * z.2.2 ≤ 140737488355328 ∧ (aval e y).int ≤ 4611686018427387904 ∧
        K ((e.map (AV.kill (tb + d + 1))).set d (.own (tb + d + 1) z.1 z.2.1 (List.replicate (aval e x).int.toNat zc))) (s.kill (tb + d + 1))) (mk _)) (mk _) := by
  simp only [xP, pop, oK]
  cases h : rowTy P t with
  | none => rfl
  | some z => obtain ⟨a, b, c⟩ := z; simp only; cases zcells P a <;> rfl
def stK (P : Program) (t : Nat) (x y : AV) (K : List AV → Sto → Prop) (_ : At K) (e : List AV) (s : Sto) : Prop :=
  match x with
  | .ref g off => oK (lt P t) (fun l => oK (s.get g) (fun cells => oK y.cells? (fun vs => g ≠ 0 ∧ okSz P t = true ∧ vs.length = l.2 ∧ off + l.2 ≤ cells.length ∧ vs.all AV.one = true ∧ AV.mencs g e = false ∧ s.mencs g = false ∧ K e (s.upd g (setR cells off vs))) (mk _)) (mk _)) (mk _)
  | .bx gb i off => oK (lt P t) (fun l => oK (s.get (gb - 1000000000)) (fun c => oK y.dcells (fun vs => oK (bxAt c gb i) (fun z => 4000000000 ≤ gb ∧ okSz P t = true ∧ vs.length = l.2 ∧ off + l.2 ≤ z.2.length ∧ vs.all D.one = true ∧ AV.mencs (gb - 1000000000) e = false ∧ s.mencs (gb - 1000000000) = false ∧ K e (s.upd (gb - 1000000000) (c.set i (bxE gb i z.1 (setR z.2 off vs))))) (mk _)) (mk _)) (mk _)) (mk _)
  | .eref g _ sz _ i off => oK (lt P t) (fun l => oK y.dcells (fun vs => g ≠ 0 ∧ s.get g = none ∧ okSz P t = true ∧ vs.length = l.2 ∧ off + l.2 ≤ sz ∧ vs.all D.one = true ∧ K (e.map (AV.upr g sz i off vs)) (s.upr g sz i off vs)) (mk _)) (mk _)
  | _ => False
theorem p_store {m2 : At K} {m3 : At Q} {t : Nat} {x y : Operand} {m1 : At (⟨none, .store t x y, type, pos, af, g⟩ : Oper)} : xP P C tb ⟨none, .store t x y, type, pos, af, g⟩ K Q m1 m2 m3 e s = stK P t (aval e x) (aval e y) K (mk _) e s := by
  simp only [xP, pop, stK]
  cases aval e x with
  | ref g off =>
    simp only [oK]
    cases lt P t with
    | none => rfl
    | some l =>
      obtain ⟨a, n⟩ := l
      simp only
      cases s.get g with
      | none => rfl
      | some c => simp only; cases (aval e y).cells? <;> simp
  | bx gb i off =>
    simp only [oK]
    cases lt P t with
    | none => rfl
    | some l =>
      obtain ⟨a, n⟩ := l
      simp only
      cases s.get (gb - 1000000000) with
      | none => rfl
      | some c =>
        simp only
        cases (aval e y).dcells with
        | none => rfl
        | some vs => simp only; cases bxAt c gb i <;> simp
  | eref g el sz rows i off =>
    simp only [oK]
    cases lt P t with
    | none => rfl
    | some l => obtain ⟨a, n⟩ := l; simp only; cases (aval e y).dcells <;> simp
  | _ => rfl
theorem st_bx {t gb i off : Nat} {y : AV} {m : At K} : stK P t (.bx gb i off) y K m e s = oK (lt P t) (fun l => oK (s.get (gb - 1000000000)) (fun c => oK y.dcells (fun vs => oK (bxAt c gb i) (fun z => 4000000000 ≤ gb ∧ okSz P t = true ∧ vs.length = l.2 ∧ off + l.2 ≤ z.2.length ∧ vs.all D.one = true ∧ AV.mencs (gb - 1000000000) e = false ∧ s.mencs (gb - 1000000000) = false ∧ K e (s.upd (gb - 1000000000) (c.set i (bxE gb i z.1 (setR z.2 off vs))))) (mk _)) (mk _)) (mk _)) (mk _) := id rfl
theorem st_ref {t g off : Nat} {y : AV} {m : At K} : stK P t (.ref g off) y K m e s = oK (lt P t) (fun l => oK (s.get g) (fun cells => oK y.cells? (fun vs => g ≠ 0 ∧ okSz P t = true ∧ vs.length = l.2 ∧ off + l.2 ≤ cells.length ∧ vs.all AV.one = true ∧ AV.mencs g e = false ∧ s.mencs g = false ∧ K e (s.upd g (setR cells off vs))) (mk _)) (mk _)) (mk _) := id rfl
theorem st_eref {t g el sz i off : Nat} {rows : List (List D)} {y : AV} {m : At K} : stK P t (.eref g el sz rows i off) y K m e s = oK (lt P t) (fun l => oK y.dcells (fun vs => g ≠ 0 ∧ s.get g = none ∧ okSz P t = true ∧ vs.length = l.2 ∧ off + l.2 ≤ sz ∧ vs.all D.one = true ∧ K (e.map (AV.upr g sz i off vs)) (s.upr g sz i off vs)) (mk _)) (mk _) := id rfl
end

def ent {α : Type} (P1 : α → List D) (pre : α → Prop) (R : α → D) (args : List AV) (K : AV → List AV → Sto → Prop) (e : List AV) (s : Sto) : Prop :=
  ∃ a, AV.rds args = some (P1 a) ∧ pre a ∧ (args = (P1 a).map .d ∨ (R a).flat = true) ∧ K (.d (R a)) e s
theorem ent_ok {α : Type} {P : Program} {f : Nat} {P1 : α → List D} {pre : α → Prop} {R : α → D} (h : ∀ a, pre a → PF P f (P1 a) (fun x => x = .ret (R a))) {args : List AV} {K : AV → List AV → Sto → Prop} {Q : Kt} {e : List AV} {s : Sto}
    (he : ent P1 pre R args K e s) : pcall P f args K Q e s := by
  obtain ⟨a, h1, h2, h3, h4⟩ := he
  rcases h3 with rfl | h3
  · exact pcall_d (h a h2) (fun x hx => by cases hx; exact h4) (fun c hc => by cases hc)
  · exact pcall_r (h a h2) h1 (fun x hx => by cases hx; exact ⟨h3, h4⟩) (fun c hc => by cases hc)

theorem ent_iff {α : Type} {P1 : α → List D} {pre : α → Prop} {R : α → D} {K : AV → List AV → Sto → Prop} {e : List AV} {s : Sto} {args : List AV} (a : α) (hinj : ∀ b, P1 b = P1 a → b = a) (hr : AV.rds args = some (P1 a)) :
    ent P1 pre R args K e s = (pre a ∧ (args = (P1 a).map .d ∨ (R a).flat = true) ∧ K (.d (R a)) e s) := by
  apply propext
  constructor
  · rintro ⟨b, h1, h2, h3, h4⟩
    rw [hr] at h1
    obtain rfl := hinj b (Option.some.inj h1).symm
    exact ⟨h2, h3, h4⟩
  · rintro ⟨h2, h3, h4⟩
    exact ⟨a, hr, h2, h3, h4⟩

theorem PF_start {P : Program} {C : CT} {O : Nat → Sch} {f : Nat} {fn : Func} {c : Code} {n : Nat} {rs : Array ResultVar} {ds : List D} {R : End → Prop} (hC : C.ok P) (hm : P.follows .mixedOrders = true) (ho : (fn.body.map (okO O)) = some true) (hf : P.funcs[f]? = some fn) (hc : callable P f = true) (hb : fn.body = some c) (hn : fn.ntmps = n) (hrs : fn.results = rs)
    (h : xW P C O 0 c (xR P rs.toList R (mk _) (mk _)) (mk _) (mk _) (ds.map .d ++ List.replicate (n - ds.length) .any) [(0, [])]) : PF P f ds R :=
  PF_intro hf hc hb hn hrs (pwp_sound hC hm c (by rw [hb] at ho; simpa using ho) h)

def C0 : CT := { f := fun _ _ _ _ _ _ => False, y := noYld }
theorem C0_z {d : Nat} : CT.z C0 d = false := id rfl
end Go.E

namespace Go.E
open Go Go.RowKit

def Sto.push (e : List AV) (s : Sto) : Option Sto := (s.get 0).map fun c => s.upd 0 (e ++ c)
def Sto.top (n : Nat) (s : Sto) : List AV := ((s.get 0).getD []).take n
def Sto.pull (n : Nat) (s : Sto) : Sto := s.upd 0 (((s.get 0).getD []).drop n)
def Sto.hidn (s : Sto) : Nat := ((s.get 0).getD []).length

def packA : List AV → AV
  | [x] => x
  | xs => AV.mkTup xs

def inlK (P : Program) (n m : Nat) (rs : List ResultVar) (K : AV → List AV → Sto → Prop) (Q : Exit → List AV → Sto → Prop) : Exit → List AV → Sto → Prop
  | .normal, e, s | .ret, e, s => ((s.get 0).isSome = true ∧ s.hidn = n + m) ∧ resAll P e s rs ∧ K (packA (rs.map (resV P e s))) (s.top n) (s.pull n)
  | .panic c, _, s => ((s.get 0).isSome = true ∧ s.hidn = n + m) ∧ Q (.panic c) (s.top n) (s.pull n)
  | _, _, _ => False

theorem take_reps {L : Lay} {w : World} {xs : List AV} {us vs : List Value} {n : Nat} (h : AReps L w xs (us ++ vs)) (hn : us.length = n) : AReps L w (xs.take n) us ∧ AReps L w (xs.drop n) vs := by
  subst hn
  have h1 := AReps.take us.length h
  have h2 := AReps.drop us.length h
  simp at h1 h2
  exact ⟨h1, h2⟩

theorem mem_markObjs {ds : List Deferred} {r : Nat} (h : r ∈ marks ds) : (r, Obj.deferred (some [])) ∈ markObjs ds := List.mem_map.2 ⟨r, h, rfl⟩
theorem rel_pull {W0 : World} {L0 L' : Lay} {e' : List AV} {s' : Sto} {w' : World} {a a' : Act} {n m : Nat} {Lh : List Value} {kp : List (Nat × Obj)} (hr : Rel W0 (L0.with (a.tmps.toList ++ Lh) (L0.kp ++ markObjs a.defers)) L' e' s' w' a') (hl : a.tmps.toList.length = n) (hm : Lh.length = m)
    (hd : ∃ vs, Lh = vs ++ L0.hid ∧ strip a.defers = vs.map undv) (hrd : L0.rd = none ∨ L0.hid ≠ []) (hrk : ∀ l, L0.rd = some l → ∃ r, (l, Obj.loop r) ∈ L0.kp) (hnd : (marks a.defers).Nodup) (hmb : ∀ r ∈ marks a.defers, W0.heap.size ≤ r ∧ ∀ o, (r, o) ∉ L0.kp)
    (h0 : (s'.get 0).isSome = true ∧ s'.hidn = n + m) : Rel W0 L0 (L'.with Lh kp) (s'.top n) (s'.pull n) w' a ∧ strip a'.defers = [] := by
  obtain ⟨h0, h1⟩ := h0
  obtain ⟨c, hc⟩ := Option.isSome_iff_exists.1 h0
  have hobj := (hr.objs 0 c hc).1 rfl
  obtain ⟨vs, hv1, hv2⟩ := hr.hid
  rw [hv1] at hobj
  have hlen := hobj.length
  simp only [Sto.hidn, hc, Option.getD_some] at h1
  have hz : vs = [] := by
    apply List.length_eq_zero_iff.1
    simp only [List.length_append, Lay.with] at hlen
    omega
  subst hz
  rw [List.nil_append] at hobj
  obtain ⟨k1, k2⟩ := take_reps hobj hl
  refine ⟨hr.hide h0 k2 hd ⟨hnd, fun r h => by obtain ⟨⟨o', h1, h3⟩, h2⟩ := hr.kept _ _ (List.mem_append_right _ (mem_markObjs h)); rw [show o' = _ from h3] at h1; exact ⟨h1, h2⟩⟩ hmb (fun b o h => hr.kept _ _ (List.mem_append_left _ h)) hrk (by simpa [Sto.top, hc] using k1) (fun _ => rfl) hrd (fun g => ?_), by simpa using hv2⟩
  unfold Sto.pull
  rw [Sto.get_upd]
  by_cases h : 0 = g
  · subst h; simp [hc]
  · simp [h]

theorem rel_push {W0 : World} {L0 L : Lay} {e : List AV} {s s1 : Sto} {w : World} {a : Act} {args : List AV} {vs : Array Value} {n : Nat} (hr : Rel W0 L0 L e s w a) (hp : s.push e = some s1) (ha : AReps L w args vs.toList) :
    Rel W0 (L0.with (a.tmps.toList ++ L.hid) (L0.kp ++ markObjs a.defers)) (L.with (a.tmps.toList ++ L.hid) []) (args ++ List.replicate (n - args.length) .any) s1 w { tmps := vs ++ Array.replicate (n - vs.size) undef, defers := [] } := by
  unfold Sto.push at hp
  obtain ⟨c, hc, rfl⟩ := Option.map_eq_some_iff.1 hp
  have hobj := (hr.objs 0 c hc).1 rfl
  have hlen := ha.length
  refine hr.hide (L0' := L0.with (a.tmps.toList ++ L.hid) (L0.kp ++ markObjs a.defers)) (a' := { tmps := vs ++ Array.replicate (n - vs.size) undef, defers := [] }) (by simp [hc]) (areps_append hr.slots hobj) ⟨[], rfl, rfl⟩ ⟨by simp [marks], by simp [marks]⟩ (by simp [marks]) (fun b o h => ?_) (fun l h => by cases h) ?_ (fun _ => rfl) (.inl rfl) (fun g => ?_)
  · rcases List.mem_append.1 h with h | h
    · exact hr.kept b o h
    · obtain ⟨r, h1, h2⟩ := List.mem_map.1 h
      cases h2
      exact ⟨⟨_, (hr.mks.2 _ h1).1, rfl⟩, (hr.mks.2 _ h1).2⟩
  · simp only [Array.toList_append, Array.toList_replicate]
    refine areps_append ha (AReps.of_get ?_ fun i d u h1 h2 => ?_)
    · simp only [List.length_replicate]; rw [← hlen]; simp
    · have := List.mem_of_getElem? h1
      rw [List.eq_of_mem_replicate this]; trivial
  · rw [Sto.get_upd]
    by_cases h : 0 = g
    · subst h; simp [hc]
    · simp [h]

theorem packA_rep {L : Lay} {w : World} {xs : List AV} {us : List Value} (h : AReps L w xs us) : ARep L w (packA xs) (if h : us.toArray.size = 1 then us.toArray[0] else .tuple us.toArray) := by
  have hl := h.length
  match xs, us, hl with
  | [], [], _ => exact AV.mkTup_rep (us := #[]) h
  | [x], [u], _ => obtain ⟨u', ut, e, k1, _⟩ := h; simp at e; rw [← e.1] at k1; simpa [packA] using k1
  | x1 :: x2 :: xr, u1 :: u2 :: ur, _ => rw [dif_neg (by simp)]; exact AV.mkTup_rep (us := (u1 :: u2 :: ur).toArray) (by simpa using h)

theorem hid_len {W0 : World} {L0 L : Lay} {e : List AV} {s s1 : Sto} {w : World} {a : Act} (hr : Rel W0 L0 L e s w a) (hp : s.push e = some s1) : L.hid.length = s.hidn := by
  unfold Sto.push at hp
  obtain ⟨c, hc, rfl⟩ := Option.map_eq_some_iff.1 hp
  rw [((hr.objs 0 c hc).1 rfl).length]; simp [Sto.hidn, hc]

theorem pcall_inl {P : Program} {f : Nat} {fn : Func} {c : Code} {n : Nat} {rs : Array ResultVar} {args : List AV} {K : AV → List AV → Sto → Prop} {Q : Exit → List AV → Sto → Prop} {e : List AV} {s s1 : Sto}
    (hf : P.funcs[f]? = some fn) (hc : callable P f = true) (hb : fn.body = some c) (hn : fn.ntmps = n) (hrs : fn.results = rs) (hp : s.push e = some s1)
    (h : psem P c (inlK P e.length s.hidn rs.toList K Q) (args ++ List.replicate (n - args.length) .any) s1) : pcall P f args K Q e s := by
  refine ⟨hc, fun W0 L0 L w a vs hr ha => (calls_of_wpX hf hb ?_)⟩
  have hl := hr.slots.length
  have hm := hid_len hr hp
  have hr1 := rel_push (n := fn.ntmps) hr hp ha
  rw [hn] at hr1
  rw [hn]
  refine wpX_mono ?_ (h _ _ _ _ _ hr1)
  rintro x a' w' ⟨L', e', s', hr', hq⟩
  have fin : (((s'.get 0).isSome = true ∧ s'.hidn = e.length + s.hidn) ∧ resAll P e' s' rs.toList ∧ K (packA (rs.toList.map (resV P e' s'))) (s'.top e.length) (s'.pull e.length)) →
      LeavesInM (FW none) 0 P fn a'.tmps (fun en w' => match en with
        | .returned v => ∃ L' e' s' r, Rel W0 L0 L' e' s' w' a ∧ ARep L' w' r v ∧ K r e' s'
        | .panicked c => ∃ L' e' s', Rel W0 L0 L' e' s' w' a ∧ Q (.panic c) e' s'
        | .outgrown => False) a'.defers .returning w' := by
    rintro ⟨h0, h1, h2⟩
    have hst := (rel_pull (kp := []) hr' hl hm hr.hid hr.rd hr.rdk hr.mks.1 hr.mkb h0).2
    refine leave_marks (by simp) a'.defers w' hst hr'.mks.1 (fun r h => (hr'.mks.2 r h).1) fun w'' hsh => ?_
    have hr2 := hr'.shut hst hsh
    obtain ⟨us, g1, g2⟩ := results_run hr2 (fun r => match r with | .tmp t => pure (a'.tmps.getD t undef) | .cell x t => do loadVar t (← asAddr (a'.tmps.getD x undef))) (fun t => rfl) (fun x t => rfl) rs.toList h1
    obtain ⟨k1, k2⟩ := rel_pull (kp := []) hr2 hl hm hr.hid hr.rd hr.rdk hr.mks.1 hr.mkb h0
    refine ⟨if h : us.toArray.size = 1 then us.toArray[0] else .tuple us.toArray, ?_, _, _, _, _, k1, ARep.with _ _ (packA_rep g2), h2⟩
    unfold results
    rw [hrs, Array.mapM_eq_mapM_toList]
    simp only [Sem.run_bind, Sem.run_map]
    erw [g1]
    rfl
  cases x with
  | normal => exact fin hq
  | ret => exact fin hq
  | panic ch =>
    have hst := (rel_pull (kp := []) hr' hl hm hr.hid hr.rd hr.rdk hr.mks.1 hr.mkb hq.1).2
    refine leave_marks (by simp) a'.defers w' hst hr'.mks.1 (fun r h => (hr'.mks.2 r h).1) fun w'' hsh => ?_
    exact ⟨_, _, _, (rel_pull (kp := []) (hr'.shut hst hsh) hl hm hr.hid hr.rd hr.rdk hr.mks.1 hr.mkb hq.1).1, hq.2⟩
  | exit i => exact hq.elim
  | goto l => exact hq.elim
  | outgrown => exact hq.elim

end Go.E

namespace Go.E
open Go Go.RowKit

def inlE (P : Program) (C : CT) (O : Nat → Sch) (tb f : Nat) : List AV → (AV → List AV → Sto → Prop) → Kt → List AV → Sto → Prop := fun args K Q e s =>
  callable P f = true ∧ ∃ fn c s1, P.funcs[f]? = some fn ∧ fn.body = some c ∧ s.push e = some s1 ∧ pwp P C O tb c (inlK P e.length s.hidn fn.results.toList K Q) (args ++ List.replicate (fn.ntmps - args.length) .any) s1
theorem inlE_ok {P : Program} {C : CT} {O : Nat → Sch} {tb f : Nat} (hC : C.ok P) (hm : P.follows .mixedOrders = true) (ho : (P.funcs[f]?.bind (·.body)).map (okO O) = some true) {args : List AV} {K : AV → List AV → Sto → Prop} {Q : Kt} {e : List AV} {s : Sto} (h : inlE P C O tb f args K Q e s) : pcall P f args K Q e s := by
  obtain ⟨hc, fn, c, s1, h1, h2, h3, h4⟩ := h
  exact pcall_inl h1 hc h2 rfl rfl h3 (pwp_sound hC hm c (by rw [h1] at ho; simpa [h2] using ho) h4)

def xI (P : Program) (n m : Nat) (rs : List ResultVar) (K : AV → List AV → Sto → Prop) (Q : Kt) (_ : At rs) (_ : At K) (_ : At Q) : Kt := fun x e s => inlK P n m rs K Q x e s
section
variable {P : Program} {n m : Nat} {rs : List ResultVar} {K : AV → List AV → Sto → Prop} {Q : Kt} {i : At rs} {j : At K} {k : At Q} {e : List AV} {s : Sto}
theorem i_n : xI P n m rs K Q i j k .normal e s = (((s.get 0).isSome = true ∧ s.hidn = n + m) ∧ resAll P e s rs ∧ K (packA (rs.map (resV P e s))) (s.top n) (s.pull n)) := id rfl
theorem i_r : xI P n m rs K Q i j k .ret e s = (((s.get 0).isSome = true ∧ s.hidn = n + m) ∧ resAll P e s rs ∧ K (packA (rs.map (resV P e s))) (s.top n) (s.pull n)) := id rfl
theorem i_p {c : List PanicEntry} : xI P n m rs K Q i j k (.panic c) e s = (((s.get 0).isSome = true ∧ s.hidn = n + m) ∧ Q (.panic c) (s.top n) (s.pull n)) := id rfl
end

theorem qd_I {P : Program} {l : List Oper} {n m' : Nat} {rs : List ResultVar} {K : AV → List AV → Sto → Prop} {Q : Kt} {i : At rs} {j : At K} {k : At Q} {m : At l} {k'} : xQd l (xI P n m' rs K Q i j k) m k' = True := propext ⟨fun _ => trivial, fun _ _ _ _ _ _ h => h⟩

theorem xinl {P : Program} {C C' : CT} {O : Nat → Sch} {tb f : Nat} {fn : Func} {c : Code} {n : Nat} {rs : Array ResultVar} (hE : C f = inlE P C' O tb f) (hc : callable P f = true) (hf : P.funcs[f]? = some fn) (hb : fn.body = some c) (hn : fn.ntmps = n) (hrs : fn.results = rs)
    {args : List AV} {K : AV → List AV → Sto → Prop} {Q : Kt} {i : At K} {j : At Q} {e : List AV} {s : Sto} :
    xC C f args K Q i j e s = oK (s.push e) (fun s1 => xW P C' O tb c (xI P e.length s.hidn rs.toList K Q (mk _) (mk _) (mk _)) (mk _) (mk _) (args ++ List.replicate (n - args.length) .any) s1) (mk _) := by
  subst hn; subst hrs
  unfold xC
  rw [hE]
  apply propext
  constructor
  · rintro ⟨_, fn', c', s1, h1, h2, h3, h4⟩
    rw [hf] at h1; cases h1
    rw [hb] at h2; cases h2
    rw [h3]
    exact h4
  · intro h
    cases hs : s.push e with
    | none => rw [hs] at h; exact h.elim
    | some s1 => rw [hs] at h; exact ⟨hc, fn, c, s1, hf, hb, hs, h⟩

def panK (x : AV) (Q : Kt) (_ : At Q) (e : List AV) (s : Sto) : Prop :=
  match x with | .d (.iface t y) => oK y.val? (fun v => Q (.panic [{ v := .iface t v, recovered := false }]) e s) (mk _) | _ => False
theorem p_panic {P : Program} {C : CT} {tb : Nat} {d : Option Nat} {type : Nat} {pos : String} {af : Array Edge} {g : Option (Nat × Bool)} {K : List AV → Sto → Prop} {Q : Kt} {x : Operand} {m1 : At (⟨d, .panic x, type, pos, af, g⟩ : Oper)} {m2 : At K} {m3 : At Q} {e : List AV} {s : Sto} :
    xP P C tb ⟨d, .panic x, type, pos, af, g⟩ K Q m1 m2 m3 e s = panK (aval e x) Q (mk _) e s := by
  simp only [xP, pop, panK, oK]
  split <;> simp_all
  split <;> simp_all
theorem pan_i {t : Nat} {y : D} {Q : Kt} {m : At Q} {e : List AV} {s : Sto} : panK (.d (.iface t y)) Q m e s = oK y.val? (fun v => Q (.panic [{ v := .iface t v, recovered := false }]) e s) (mk _) := id rfl
end Go.E

namespace Go.E
open Go Go.RowKit

def setAll : List AV → List (Nat × AV) → List AV
  | e, [] => e
  | e, (i, x) :: r => setAll (e.set i x) r
def wk : List AV → List AV → Prop
  | [], [] => True
  | x :: xs, y :: ys => (y = .any ∨ x = y ∨ (x.isNilS ∧ y.isNoRows)) ∧ wk xs ys
  | _, _ => False
theorem wk_Wk : ∀ {xs ys : List AV}, wk xs ys → Wk xs ys
  | [], [], _ => rfl
  | x :: xs, y :: ys, ⟨h1, h2⟩ => ⟨y, ys, rfl, h1, wk_Wk h2⟩
  | [], _ :: _, h => h.elim
  | _ :: _, [], h => h.elim
def wkS : Sto → Sto → Prop
  | [], [] => True
  | (h, c) :: r, (h', c') :: r' => h = h' ∧ wk c c' ∧ wkS r r'
  | _, _ => False
theorem wkS_get : ∀ {s s' : Sto}, wkS s s' → ∀ g c, s'.get g = some c → ∃ c0, s.get g = some c0 ∧ Wk c0 c
  | [], [], _, g, c, hc => by simp [Sto.get] at hc
  | (h, x) :: r, (h', y) :: r', ⟨e, h1, h2⟩, g, c, hc => by
    subst e
    simp only [Sto.get] at hc ⊢
    by_cases hg : h = g
    · rw [if_pos hg] at hc ⊢; cases hc; exact ⟨x, rfl, wk_Wk h1⟩
    · rw [if_neg hg] at hc ⊢; exact wkS_get h2 g c hc
  | [], _ :: _, h, _, _, _ => h.elim
  | _ :: _, [], h, _, _, _ => h.elim

theorem row_at {α : Type} [Inhabited α] {l : List α} {f : α → List D} {i : Nat} (h : i < l.length) : (l.map f).getD i [] = f (l.getD i default) := by
  simp [List.getD, List.getElem?_map, List.getElem?_eq_getElem h]
theorem inj_map {α : Type} {f : α → List D} {l l' : List α} (h : ∀ a b, f a = f b → a = b) : (l.map f = l'.map f) = (l = l') := by
  apply propext
  constructor
  · intro e
    exact (List.map_inj_right h).1 e
  · rintro rfl; rfl
theorem tdiv_e {a b : Int} (h : 0 ≤ a) : a.tdiv b = a / b := Int.tdiv_eq_ediv_of_nonneg h
theorem tmod_e {a b : Int} (h : 0 ≤ a) : a.tmod b = a % b := Int.tmod_eq_emod_of_nonneg h
theorem nat_to {n : Nat} : ((n : Int)).toNat = n := Int.toNat_natCast n
theorem len_map {α β : Type} {l : List α} {f : α → β} : (l.map f).length = l.length := List.length_map ..
theorem cast_succ {i : Nat} : ((i + 1 : Nat) : Int) = (i : Int) + 1 := rfl
theorem cast_zero : ((0 : Nat) : Int) = 0 := rfl
end Go.E
