/- A part of the proof that the last text ends: what functions of the program do, told by plain data. -/
import Derived.Test.YtmajlffglplcnaaDoorMS
set_option linter.unusedVariables false
set_option linter.unusedSimpArgs false
namespace Go.Proofs.YtmajlffglplcnaaDoor
open Go Go.E
def Tof (n : Nat) (f : Nat → Int) : List Int := (List.range 6).map fun i => if i < n then f i else 0
theorem Tof_len {n : Nat} {f : Nat → Int} : (Tof n f).length = 6 := by simp [Tof]
theorem Tof_at {n i : Nat} {f : Nat → Int} (hi : i < 6) : (Tof n f).getD i default = if i < n then f i else 0 := by
  rw [at_lt (by rw [Tof_len]; exact hi)]; simp [Tof]
theorem Tof_congr {n : Nat} {f g : Nat → Int} (h : ∀ i, i < n → f i = g i) : Tof n f = Tof n g := by
  unfold Tof
  refine List.map_congr_left fun i _ => ?_
  by_cases c : i < n
  · rw [if_pos c, if_pos c, h i c]
  · rw [if_neg c, if_neg c]
def ptH (r : Nat) : Int := match r with | 0 => 3 | 1 => 2 | 2 => 1 | _ => 0
def ptA (r : Nat) : Int := match r with | 0 => 0 | 1 => 1 | 2 => 2 | _ => 3
def addT (T : List Int) (g : Gam) (r : Nat) : List Int := (T.set g.home.toNat (T.getD g.home.toNat default + ptH r)).set g.away.toNat (T.getD g.away.toNat default + ptA r)
theorem addT_len {T : List Int} {g : Gam} {r : Nat} : (addT T g r).length = T.length := by simp [addT]
theorem addT_Tof {n : Nat} (hn : n ≤ 6) {f : Nat → Int} {g : Gam} (hm : gmOk g n = true) {r : Nat} : addT (Tof n f) g r = Tof n (fun i => f i + if i = g.home.toNat then ptH r else if i = g.away.toNat then ptA r else 0) := by
  obtain ⟨h1, h2, h3, _⟩ := gm_teams hm
  apply List.ext_getElem (by rw [addT_len, Tof_len, Tof_len])
  intro i i1 i2
  have hi : i < 6 := by rw [Tof_len] at i2; exact i2
  have e0 := Tof_at (n := n) (f := f) hi
  have e1 := Tof_at (n := n) (f := f) (i := g.home.toNat) (by omega)
  have e2 := Tof_at (n := n) (f := f) (i := g.away.toNat) (by omega)
  rw [if_pos (by omega)] at e1 e2
  have e3 := Tof_at (n := n) (f := fun i => f i + if i = g.home.toNat then ptH r else if i = g.away.toNat then ptA r else 0) hi
  rw [← at_lt i1, ← at_lt i2, e3]
  unfold addT
  rw [getD_set (by rw [List.length_set, Tof_len]; omega), getD_set (by rw [Tof_len]; omega), e0, e1, e2]
  by_cases c1 : i = g.away.toNat
  · rw [if_pos c1, if_pos (show i < n by omega), if_neg (show ¬ i = g.home.toNat by omega), if_pos c1, c1]
  rw [if_neg c1]
  by_cases c2 : i = g.home.toNat
  · rw [if_pos c2, if_pos (show i < n by omega), if_pos c2, c2]
  rw [if_neg c2]
  by_cases c3 : i < n
  · rw [if_pos c3, if_pos c3, if_neg c2, if_neg c1, Int.add_zero]
  · rw [if_neg c3, if_neg c3]
def reach (l : Lea) : Nat → List Int → Prop
  | 0 => fun T => T = Tof l.far.length (ptsF l.games)
  | k + 1 => fun U => if (l.games.getD k default).fin = 0 then ∃ T r, reach l k T ∧ r < 4 ∧ U = addT T (l.games.getD k default) r else reach l k U
theorem reach_open {l : Lea} {k : Nat} (h : (l.games.getD k default).fin = 0) {U : List Int} : reach l (k + 1) U ↔ ∃ T r, reach l k T ∧ r < 4 ∧ U = addT T (l.games.getD k default) r := by
  show (if _ then _ else _) ↔ _
  rw [if_pos h]
theorem reach_skip {l : Lea} {k : Nat} (h : ¬ (l.games.getD k default).fin = 0) {U : List Int} : reach l (k + 1) U ↔ reach l k U := by
  show (if _ then _ else _) ↔ _
  rw [if_neg h]
theorem reach_b {l : Lea} (hl : leaOk l = true) : ∀ k, k ≤ l.games.length → ∀ T, reach l k T → T.length = 6 ∧ ∀ i, i < 6 → 0 ≤ T.getD i default ∧ T.getD i default ≤ 192 + 3 * k
  | 0, _, T, h => by
    obtain rfl : T = _ := h
    refine ⟨Tof_len, fun i hi => ?_⟩
    rw [Tof_at hi]
    have := (stF_b (t := (i : Int)) (lea_gs hl)).2.1
    unfold ptsF
    split <;> omega
  | k + 1, hk, T, h => by
    by_cases c : (l.games.getD k default).fin = 0
    · obtain ⟨T0, r, h1, h2, rfl⟩ := (reach_open c).1 h
      obtain ⟨b1, b2⟩ := reach_b hl k (by omega) T0 h1
      refine ⟨by rw [addT_len]; exact b1, fun i hi => ?_⟩
      obtain ⟨g1, g2, g3, _⟩ := gm_teams (lea_gm hl (k := k) (by omega))
      have h6 := lea_fars hl
      have p1 : 0 ≤ ptH r ∧ ptH r ≤ 3 := by unfold ptH; split <;> omega
      have p2 : 0 ≤ ptA r ∧ ptA r ≤ 3 := by unfold ptA; split <;> omega
      unfold addT
      have q1 := b2 (l.games.getD k default).home.toNat (by omega)
      have q2 := b2 (l.games.getD k default).away.toNat (by omega)
      have q3 := b2 i hi
      rw [getD_set (by rw [List.length_set]; omega), getD_set (by omega)]
      split
      · omega
      · split <;> omega
    · obtain ⟨b1, b2⟩ := reach_b hl k (by omega) T ((reach_skip c).1 h)
      exact ⟨b1, fun i hi => by have := b2 i hi; omega⟩
def sN (l : List Gam) (es : List Int) (i : Nat) (k : Nat) : Int := ((List.range k).map fun j => if (l.getD j default).fin = 0 then ptG (ocA l es j) i else 0).sum
theorem sN_succ {l : List Gam} {es : List Int} {i k : Nat} : sN l es i (k + 1) = sN l es i k + if (l.getD k default).fin = 0 then ptG (ocA l es k) i else 0 := by
  unfold sN; rw [List.range_succ, List.map_append, List.sum_append]; simp
theorem sN_app {l : List Gam} {es : List Int} {e : Int} {i : Nat} : ∀ {k : Nat}, k ≤ l.length → openN l k ≤ es.length → sN l (es ++ [e]) i k = sN l es i k := fun {k} hk ho => by
  unfold sN
  congr 1
  refine List.map_congr_left fun j hj => ?_
  have hj := List.mem_range.1 hj
  by_cases c : (l.getD j default).fin = 0
  · rw [if_pos c, if_pos c]
    have h1 := openN_yes (l := l) (j := j) (by omega) c
    have h2 := openN_mono (l := l) (i := j + 1) (j := k) (by omega) hk
    have h3 : openN l j < es.length := by omega
    unfold ocA
    rw [if_pos ⟨c, by rw [List.length_append]; simp; omega⟩, if_pos ⟨c, h3⟩]
    congr 2
    rw [List.getD_eq_getElem?_getD, List.getElem?_append_left h3, ← List.getD_eq_getElem?_getD]
  · rw [if_neg c, if_neg c]
def eOf (r : Nat) : Int := match r with | 0 => 0 | 1 => 1 | 2 => 3 | _ => 2
theorem ptG_oc {g : Gam} {n : Int} (hm : gmOk g n = true) {r : Nat} (hr : r < 4) (i : Nat) : ptG (ocX g (eOf r)) i = if i = g.home.toNat then ptH r else if i = g.away.toNat then ptA r else 0 := by
  obtain ⟨h1, h2, h3, _⟩ := gm_teams hm
  by_cases c1 : i = g.home.toNat
  · have e1 : g.home = (i : Int) := by omega
    have e2 : ¬ g.away = (i : Int) := by omega
    rw [if_pos c1]
    rcases (show r = 0 ∨ r = 1 ∨ r = 2 ∨ r = 3 by omega) with rfl | rfl | rfl | rfl <;> simp [ptG, ocX, eOf, inG, hasB, winB, ptH, e1]
  rw [if_neg c1]
  by_cases c2 : i = g.away.toNat
  · have e1 : g.away = (i : Int) := by omega
    have e2 : ¬ g.home = (i : Int) := by omega
    rw [if_pos c2]
    rcases (show r = 0 ∨ r = 1 ∨ r = 2 ∨ r = 3 by omega) with rfl | rfl | rfl | rfl <;> simp [ptG, ocX, eOf, inG, hasB, winB, ptA, e1, e2]
  rw [if_neg c2]
  have e1 : ¬ g.away = (i : Int) := by omega
  have e2 : ¬ g.home = (i : Int) := by omega
  simp [ptG, ocX, inG, hasB, e1, e2]
def dig (es : List Int) : Prop := ∀ e ∈ es, 0 ≤ e ∧ e ≤ 3
theorem reach_iff {l : Lea} (hl : leaOk l = true) : ∀ k, k ≤ l.games.length → ∀ T, reach l k T ↔ ∃ es, dig es ∧ es.length = openN l.games k ∧ T = Tof l.far.length (fun i => ptsF l.games i + sN l.games es i k)
  | 0, _, T => by
    constructor
    · rintro h
      obtain rfl : T = _ := h
      exact ⟨[], (fun e h => by cases h), rfl, Tof_congr fun i _ => by simp [sN]⟩
    · rintro ⟨es, _, _, rfl⟩
      show _ = _
      exact Tof_congr fun i _ => by simp [sN]
  | k + 1, hk, T => by
    have h6 := lea_fars hl
    have hm := lea_gm hl (k := k) (by omega)
    by_cases c : (l.games.getD k default).fin = 0
    · rw [reach_open c]
      have ho := openN_yes (l := l.games) (j := k) (by omega) c
      constructor
      · rintro ⟨T0, r, h1, h2, rfl⟩
        obtain ⟨es, d1, d2, rfl⟩ := (reach_iff hl k (by omega) T0).1 h1
        refine ⟨es ++ [eOf r], fun e he => ?_, by rw [List.length_append, d2, ho]; rfl, ?_⟩
        · rcases List.mem_append.1 he with h | h
          · exact d1 e h
          · simp at h; subst h; unfold eOf; split <;> omega
        rw [addT_Tof (by omega) hm]
        refine Tof_congr fun i hi => ?_
        rw [sN_succ, if_pos c, sN_app (by omega) (by omega)]
        have : ocA l.games (es ++ [eOf r]) k = ocX (l.games.getD k default) (eOf r) := by
          unfold ocA
          rw [if_pos ⟨c, by rw [List.length_append]; simp; omega⟩, ← d2]
          simp
        rw [this, ptG_oc hm h2]
        omega
      · rintro ⟨es, d1, d2, rfl⟩
        rw [ho] at d2
        obtain ⟨es0, e, rfl⟩ : ∃ es0 e, es = es0 ++ [e] := ⟨es.dropLast, es.getLast (by intro h; rw [h] at d2; simp at d2), (List.dropLast_concat_getLast _).symm⟩
        have d3 : es0.length = openN l.games k := by rw [List.length_append] at d2; simpa using d2
        have de := d1 e (by simp)
        have hr : ∃ r, r < 4 ∧ e = eOf r := by
          rcases (show e = 0 ∨ e = 1 ∨ e = 2 ∨ e = 3 by omega) with rfl | rfl | rfl | rfl
          · exact ⟨0, by decide, rfl⟩
          · exact ⟨1, by decide, rfl⟩
          · exact ⟨3, by decide, rfl⟩
          · exact ⟨2, by decide, rfl⟩
        obtain ⟨r, hr, rfl⟩ := hr
        refine ⟨_, r, (reach_iff hl k (by omega) _).2 ⟨es0, fun e h => d1 e (by simp [h]), d3, rfl⟩, hr, ?_⟩
        rw [addT_Tof (by omega) hm]
        refine Tof_congr fun i hi => ?_
        rw [sN_succ, if_pos c, sN_app (by omega) (by omega)]
        have : ocA l.games (es0 ++ [eOf r]) k = ocX (l.games.getD k default) (eOf r) := by
          unfold ocA
          rw [if_pos ⟨c, by rw [List.length_append]; simp; omega⟩, ← d3]
          simp
        rw [this, ptG_oc hm hr]
        omega
    · rw [reach_skip c, reach_iff hl k (by omega) T, openN_no (by omega) c]
      constructor <;>
      · rintro ⟨es, d1, d2, rfl⟩
        exact ⟨es, d1, d2, Tof_congr fun i _ => by rw [sN_succ, if_neg c, Int.add_zero]⟩
theorem oc_pts {l : List Gam} {es : List Int} {i : Nat} : ∀ k, k ≤ l.length → (stN (ocG l es) i k).pts = (stN l i k).pts + sN l es i k
  | 0, _ => by rw [stN_zero, stN_zero]; simp [sN]
  | k + 1, hk => by
    have hlen : (ocG l es).length = l.length := ocK_len
    have hat : (ocG l es).getD k default = ocA l es k := by
      have := ocK_at (l := l) (es := es) (k := l.length) (j := k) (by omega)
      rw [if_pos (by omega)] at this
      exact this
    have add_pts : ∀ {s : Std} {g : Gam}, (addG s g).pts = s.pts + ptG g s.team := fun {s g} => by
      by_cases h : inG g s.team = false
      · rw [addG_skip h]; unfold ptG; rw [if_pos h]; omega
      · unfold addG; rw [if_neg h]; split <;> rfl
    rw [stN_succ (by omega), stN_succ (by omega), add_pts, add_pts, oc_pts k (by omega), stN_team k (by omega), stN_team k (by omega), hat, sN_succ]
    by_cases c : (l.getD k default).fin = 0
    · rw [if_pos c]
      have : ptG (l.getD k default) i = 0 := by unfold ptG; rw [if_pos (inG_fin c)]
      rw [this]; omega
    · rw [if_neg c]
      have : ocA l es k = l.getD k default := by unfold ocA; rw [if_neg (fun h => c h.1)]
      rw [this]; omega
theorem outsL_mem : ∀ (k : Nat) (b es : List Int), es ∈ outsL k b ↔ ∃ c, es = b ++ c ∧ c.length = k ∧ dig c
  | 0, b, es => by
    constructor
    · intro h; simp [outsL] at h; exact ⟨[], by simp [h], rfl, (fun e h => by cases h)⟩
    · rintro ⟨c, rfl, h, _⟩
      rw [List.length_eq_zero_iff.1 h]; simp [outsL]
  | k + 1, b, es => by
    unfold outsL
    rw [List.mem_flatMap]
    constructor
    · rintro ⟨i, hi, h⟩
      have hi := List.mem_range.1 hi
      obtain ⟨c, rfl, h1, h2⟩ := (outsL_mem k _ es).1 h
      refine ⟨(i : Int) :: c, by simp, by simp [h1], fun e he => ?_⟩
      rcases List.mem_cons.1 he with rfl | he
      · omega
      · exact h2 e he
    · rintro ⟨c, rfl, h1, h2⟩
      cases c with
      | nil => simp at h1
      | cons x c =>
        have hx := h2 x (by simp)
        refine ⟨x.toNat, List.mem_range.2 (by omega), (outsL_mem k _ _).2 ⟨c, ?_, by simpa using h1, fun e he => h2 e (by simp [he])⟩⟩
        rw [show ((x.toNat : Nat) : Int) = x by omega]; simp
theorem reach_law {l : Lea} (hl : leaOk l = true) {T : List Int} : reach l l.games.length T ↔ ∃ es ∈ outO l, T = Tof l.far.length (ptsF (ocL l es).games) := by
  rw [reach_iff hl _ (Nat.le_refl _)]
  have ho : openN l.games l.games.length = lfF l.games (-1) := by unfold lfF; rw [lf_open]
  have hp : ∀ es, Tof l.far.length (fun i => ptsF l.games i + sN l.games es i l.games.length) = Tof l.far.length (ptsF (ocL l es).games) := fun es => by
    refine Tof_congr fun i _ => ?_
    have hlen : (ocG l.games es).length = l.games.length := ocK_len
    show (stN l.games i l.games.length).pts + _ = (stN (ocG l.games es) i (ocG l.games es).length).pts
    rw [hlen, oc_pts _ (Nat.le_refl _)]
  unfold outO
  constructor
  · rintro ⟨es, h1, h2, rfl⟩
    exact ⟨es, (outsL_mem _ _ _).2 ⟨es, rfl, by rw [h2, ho], h1⟩, hp es⟩
  · rintro ⟨es, h1, rfl⟩
    obtain ⟨c, h2, h3, h4⟩ := (outsL_mem _ _ _).1 h1
    obtain rfl : es = c := by simpa using h2
    exact ⟨es, h4, by rw [h3, ho], (hp es).symm⟩
end Go.Proofs.YtmajlffglplcnaaDoor
