/- A part of the proof that the last text ends: what functions of the program do, told by plain data. -/
import Derived.Test.YtapglfcaghlpfaaUC
set_option linter.unusedVariables false
set_option linter.unusedSimpArgs false
namespace Go.Proofs.Ytapglfcaghlpfaa
open Go Go.E Go.Maps
set_option maxRecDepth 100000
theorem set_at {l : List Int} {j : Nat} {v : Int} {k : Nat} (hj : j < l.length) : (l.set j v).getD k default = if k = j then v else l.getD k default := by
  rw [List.getD_eq_getElem?_getD, List.getElem?_set, List.getD_eq_getElem?_getD]
  by_cases h : j = k
  · subst h; simp [hj]
  · rw [if_neg h, if_neg (fun e => h e.symm)]
theorem csum_set {l : List Int} {j : Nat} (hj : j < l.length) (v : Int) : ∀ k, csum (l.set j v) k = csum (l.set j 0) k + if j < k then v else 0
  | 0 => by simp [csum]
  | k + 1 => by
    unfold csum
    rw [csum_set hj v k, set_at hj, set_at hj]
    rcases Nat.lt_trichotomy j k with h | h | h
    · rw [if_pos h, if_neg (by omega), if_neg (by omega), if_pos (by omega)]; omega
    · subst h; rw [if_neg (by omega), if_pos rfl, if_pos rfl, if_pos (by omega)]
    · rw [if_neg (by omega), if_neg (by omega), if_neg (by omega), if_neg (by omega)] <;> omega
structure Oth (l : List Int) (j k : Nat) (M m : Int) : Prop where
  le : m ≤ M
  top : ∃ i, i < l.length ∧ i ≠ j ∧ l.getD i default = M
  bot : ∃ i, i < l.length ∧ i ≠ j ∧ l.getD i default = m
  all : ∀ i, i < k → i ≠ j → m ≤ l.getD i default ∧ l.getD i default ≤ M
theorem Oth.step {l : List Int} {j k : Nat} {M m : Int} (h : Oth l j k M m) (hk : k < l.length) (hj : k ≠ j) : Oth l j (k + 1) (max M (l.getD k default)) (min m (l.getD k default)) := by
  refine ⟨by have := h.le; omega, ?_, ?_, fun i hi hij => ?_⟩
  · by_cases c : M ≤ l.getD k default
    · exact ⟨k, hk, hj, by omega⟩
    · obtain ⟨i, h1, h2, h3⟩ := h.top; exact ⟨i, h1, h2, by omega⟩
  · by_cases c : l.getD k default ≤ m
    · exact ⟨k, hk, hj, by omega⟩
    · obtain ⟨i, h1, h2, h3⟩ := h.bot; exact ⟨i, h1, h2, by omega⟩
  · by_cases c : i = k
    · subst c; omega
    · have := h.all i (by omega) hij; omega
theorem Oth.skip {l : List Int} {j : Nat} {M m : Int} (h : Oth l j j M m) : Oth l j (j + 1) M m :=
  ⟨h.le, h.top, h.bot, fun i hi hij => h.all i (by omega) hij⟩
theorem Oth.first {l : List Int} {j k : Nat} (hk : k < l.length) (hj : k ≠ j) (h : ∀ i, i < k → i = j) : Oth l j (k + 1) (l.getD k default) (l.getD k default) :=
  ⟨Int.le_refl _, ⟨k, hk, hj, rfl⟩, ⟨k, hk, hj, rfl⟩, fun i hi hij => by
    have : i = k := by
      rcases Nat.lt_or_ge i k with c | c
      · exact absurd (h i c) hij
      · omega
    subst this; exact ⟨Int.le_refl _, Int.le_refl _⟩⟩
theorem cm_set {l : List Int} {j : Nat} (hj : j < l.length) : ∀ k, k ≤ l.length →
    (j = 0 ∧ k ≤ 1 ∧ ∀ v, cmax (l.set j v) k = v ∧ cmin (l.set j v) k = v) ∨
    (j < k ∧ ∃ M m, Oth l j k M m ∧ ∀ v, cmax (l.set j v) k = max v M ∧ cmin (l.set j v) k = min v m) ∨
    (k ≤ j ∧ 0 < j ∧ ∃ M m, (k = 0 ∨ Oth l j k M m) ∧ (k = 0 → M = l.getD 0 default ∧ m = l.getD 0 default) ∧ ∀ v, cmax (l.set j v) k = M ∧ cmin (l.set j v) k = m)
  | 0, _ => by
    by_cases c : j = 0
    · refine .inl ⟨c, by omega, fun v => ?_⟩
      unfold cmax cmin; rw [set_at hj, if_pos c.symm]; exact ⟨rfl, rfl⟩
    · refine .inr (.inr ⟨by omega, by omega, _, _, .inl rfl, fun _ => ⟨rfl, rfl⟩, fun v => ?_⟩)
      unfold cmax cmin; rw [set_at hj, if_neg (fun e => c e.symm)]; exact ⟨rfl, rfl⟩
  | k + 1, hk => by
    have e1 : ∀ v, cmax (l.set j v) (k + 1) = max (cmax (l.set j v) k) (if k = j then v else l.getD k default) := fun v => by
      rw [← set_at hj (v := v)]; rfl
    have e2 : ∀ v, cmin (l.set j v) (k + 1) = min (cmin (l.set j v) k) (if k = j then v else l.getD k default) := fun v => by
      rw [← set_at hj (v := v)]; rfl
    rcases cm_set hj k (by omega) with ⟨h0, h1, h2⟩ | ⟨h0, M, m, h1, h2⟩ | ⟨h0, h00, M, m, h1, h10, h2⟩
    · by_cases c : k = j
      · refine .inl ⟨h0, by omega, fun v => ?_⟩
        rw [e1, e2, if_pos c, (h2 v).1, (h2 v).2]; omega
      · refine .inr (.inl ⟨by omega, _, _, Oth.first (by omega) c (fun i hi => by omega), fun v => ?_⟩)
        rw [e1, e2, if_neg c, (h2 v).1, (h2 v).2]; exact ⟨rfl, rfl⟩
    · refine .inr (.inl ⟨by omega, _, _, h1.step (by omega) (by omega), fun v => ?_⟩)
      rw [e1, e2, if_neg (by omega), (h2 v).1, (h2 v).2]; omega
    · by_cases c : k = j
      · subst c
        refine .inr (.inl ⟨by omega, M, m, (h1.resolve_left (by omega)).skip, fun v => ?_⟩)
        rw [e1, e2, if_pos rfl, (h2 v).1, (h2 v).2]; omega
      · refine .inr (.inr ⟨by omega, h00, max M (l.getD k default), min m (l.getD k default), .inr ?_, fun h => by omega, fun v => ?_⟩)
        · rcases h1 with h1 | h1
          · obtain ⟨q1, q2⟩ := h10 h1
            subst h1
            have := Oth.first (l := l) (j := j) (k := 0) (by omega) c (fun i hi => by omega)
            rw [q1, q2]
            have e3 : max (l.getD 0 default) (l.getD 0 default) = l.getD 0 default := by omega
            have e4 : min (l.getD 0 default) (l.getD 0 default) = l.getD 0 default := by omega
            rw [e3, e4]; exact this
          · exact h1.step (by omega) c
        · rw [e1, e2, if_neg c, (h2 v).1, (h2 v).2]; exact ⟨rfl, rfl⟩
theorem cnts_snd {l : List Int} {j : Nat} {v : Int} : (cnts (l.set j v)).2 = (cnts l).2 := by
  unfold cnts; rw [List.length_set]; split <;> rfl
theorem cnts_set {l : List Int} {j : Nat} (hj : j < l.length) : ∃ S M m, (5 ≤ (l.length : Int) → Oth l j l.length M m) ∧ ∀ v, (cnts (l.set j v)).1 = if 5 ≤ (l.length : Int) then S + v - max v M - min v m else S + v := by
  by_cases c : 5 ≤ (l.length : Int)
  · rcases cm_set hj l.length (Nat.le_refl _) with ⟨h0, h1, h2⟩ | ⟨h0, M, m, h1, h2⟩ | ⟨h0, h00, M, m, h1, h2⟩
    · omega
    · refine ⟨csum (l.set j 0) l.length, M, m, fun _ => h1, fun v => ?_⟩
      unfold cnts
      rw [List.length_set, if_pos c, if_pos c]
      simp only
      rw [csum_set hj v, if_pos hj, (h2 v).1, (h2 v).2]
    · omega
  · refine ⟨csum (l.set j 0) l.length, 0, 0, fun h => absurd h c, fun v => ?_⟩
    unfold cnts
    rw [List.length_set, if_neg c, if_neg c]
    simp only
    rw [csum_set hj v, if_pos hj]
theorem cnts_mono {l : List Int} {j : Nat} (hj : j < l.length) {v w : Int} (h : v ≤ w) : (cnts (l.set j v)).1 ≤ (cnts (l.set j w)).1 := by
  obtain ⟨S, M, m, h1, h2⟩ := cnts_set hj
  rw [h2, h2]
  split
  · rename_i c
    have := (h1 c).le
    omega
  · omega
theorem set_self {l : List Int} {j : Nat} (hj : j < l.length) : l.set j (l.getD j default) = l := by
  rw [at_lt hj]; exact List.set_getElem_self hj
theorem rnd_mono {a a' b : Int} (h : a ≤ a') (hb : 1 ≤ b) : rnd a b ≤ rnd a' b := by
  unfold rnd
  split
  · split
    · have := Int.ediv_le_ediv (show 0 < 2 * b by omega) (show 2 * -a' + b ≤ 2 * -a + b by omega)
      omega
    · have h1 := Int.ediv_nonneg (show 0 ≤ 2 * -a + b by omega) (show 0 ≤ 2 * b by omega)
      have h2 := Int.ediv_nonneg (show 0 ≤ 2 * a' + b by omega) (show 0 ≤ 2 * b by omega)
      omega
  · rw [if_neg (by omega)]
    exact Int.ediv_le_ediv (by omega) (by omega)
structure UpC (c c' : Cal) : Prop where
  place : c'.place = c.place
  elem : c'.elem = c.elem
  under : c'.under = c.under
  late : c'.late = c.late
  num : (cnts c'.marks).2 = (cnts c.marks).2
  sum : (cnts c.marks).1 ≤ (cnts c'.marks).1
theorem UpC.rfl' {c : Cal} : UpC c c := ⟨rfl, rfl, rfl, rfl, rfl, Int.le_refl _⟩
structure UpS (s s' : Ska) : Prop where
  len : s'.calls.length = s.calls.length
  call : ∀ i, UpC (s.calls.getD i default) (s'.calls.getD i default)
theorem cntE_up {s s' : Ska} (h : UpS s s') {c c' : Cal} (hc : UpC c c') : ∀ k, cntE s'.calls c' k = cntE s.calls c k
  | 0 => rfl
  | k + 1 => by
    unfold cntE
    rw [cntE_up h hc k, (h.call k).elem, (h.call k).place, hc.elem, hc.place]
theorem valR_up {r : Rul} {s s' : Ska} {n : Int} (hv : Valid r s n) (h : UpS s s') {i : Nat} (hi : i < s.calls.length) : valR r s i ≤ valR r s' i := by
  have hc := h.call i
  have e : countsB r s' i = countsB r s i := by
    unfold countsB; rw [h.len, cntE_up h hc]
  obtain ⟨d1, d2, d3, d4, d5⟩ := hv.cat hi
  have hb := cnts_b (l := (s.calls.getD i default).marks) d4.2 (by have := hv.jn; omega) (fun y hy => by have := d5 y hy; omega)
  have hbase : 0 ≤ r.bases.getD (s.calls.getD i default).elem.toNat default := by
    have hlt : (s.calls.getD i default).elem.toNat < r.bases.length := by omega
    rw [at_lt hlt]; exact (hv.base _ (List.getElem_mem _)).1
  unfold valR
  rw [e, hc.elem, hc.under, hc.late, hc.num]
  split
  · refine Int.add_le_add_left (rnd_mono (Int.mul_le_mul_of_nonneg_right hc.sum (Int.mul_nonneg hbase (by omega))) (by omega)) _
  · exact Int.le_refl _
theorem elR_up {r : Rul} {s s' : Ska} {n : Int} (hv : Valid r s n) (h : UpS s s') : ∀ k, k ≤ s.calls.length → elR r s k ≤ elR r s' k
  | 0, _ => Int.le_refl _
  | k + 1, hk => by
    have := elR_up hv h k (by omega)
    have := valR_up hv h (i := k) (by omega)
    unfold elR; omega
end Go.Proofs.Ytapglfcaghlpfaa

namespace Go.Proofs.Ytapglfcaghlpfaa
open Go Go.E Go.Maps
set_option maxRecDepth 100000
theorem okN_mk {r : Rul} {n : Int} {l : List Cal} : ∀ k i, (∀ j, i ≤ j → j < i + k → dupB l j = false ∧ callOk r (l.getD j default) n = true) → okN r n l k i = true
  | 0, _, _ => rfl
  | k + 1, i, h => by
    have h1 := h i (Nat.le_refl _) (by omega)
    unfold okN
    rw [if_neg (by rw [h1.1]; simp), if_pos h1.2]
    exact okN_mk k (i + 1) fun j hj hk => h j (by omega) (by omega)
theorem dup_nd {l : List Cal} (h : (l.map Cal.place).Nodup) {i : Nat} (hi : i < l.length) : dupB l i = false := by
  unfold dupB
  rw [List.any_eq_false]
  intro y hy
  obtain ⟨m, hm, e⟩ := List.getElem_of_mem hy
  have hm' : m < i := by have := hm; rw [List.length_take] at this; omega
  rw [List.getElem_take] at e
  simp only [decide_eq_true_eq]
  intro hp
  rw [at_lt hi, ← e] at hp
  have h1 := List.getElem_inj (i := m) (j := i) (h₀ := by rw [List.length_map]; omega) (h₁ := by rw [List.length_map]; omega) h
  rw [List.getElem_map, List.getElem_map] at h1
  have := h1.1 hp
  omega
theorem marksOk_mk {l : List Int} {n lo hi : Int} (h1 : (l.length : Int) = n) (h2 : ∀ y ∈ l, lo ≤ y ∧ y ≤ hi) : marksOk l n lo hi = true := by
  unfold marksOk allB
  simp only [Bool.and_eq_true, decide_eq_true_eq, List.all_eq_true, inB_iff]
  exact ⟨h1, h2⟩
theorem conOk_mk {r : Rul} {s : Ska} {n : Int} (hr : r.ok = true) (hv : Valid r s n) (hd : (s.calls.map Cal.place).Nodup) : conOk r (one s) = true := by
  have hj : jud (one s) = if 0 < s.calls.length then (((s.calls.getD 0 default).marks.length : Int), true) else if 0 < s.parts.length then ((s.parts.getD 0 default).length, true) else (0, false) := rfl
  have hall : ∀ m : Int, (0 < s.calls.length ∨ 0 < s.parts.length → m = n) → skaOk r s m = true := fun m hm => by
    unfold skaOk
    simp only [Bool.and_eq_true, decide_eq_true_eq, inB_iff]
    refine ⟨⟨⟨⟨hv.calls, hv.parts⟩, hv.over⟩, okN_mk _ _ fun j _ hj => ⟨dup_nd hd (by omega), ?_⟩⟩, ?_⟩
    · obtain ⟨d1, d2, d3, d4, d5⟩ := hv.cat (i := j) (by omega)
      unfold callOk
      simp only [Bool.and_eq_true, inB_iff]
      exact ⟨d1, by omega, d3, marksOk_mk (by rw [hm (.inl (by omega))]; exact d4.1) d5⟩
    · unfold partsOk
      rw [List.all_eq_true]
      intro p hp
      have := hv.part p hp
      exact marksOk_mk (by rw [hm (.inr (List.length_pos_of_mem hp))]; exact this.1.1) this.2
  unfold conOk
  simp only [Bool.and_eq_true]
  refine ⟨⟨hr, ?_⟩, ?_⟩
  · rw [hj]
    split
    · rename_i h
      have := (hv.cat (i := 0) h).2.2.2.1
      have := hv.jn
      simp only [Bool.not_true, Bool.false_or]
      rw [inB_iff]; omega
    · split
      · rename_i h
        have := (hv.part (s.parts.getD 0 default) (by rw [at_lt h]; exact List.getElem_mem _)).1
        have := hv.jn
        simp only [Bool.not_true, Bool.false_or]
        rw [inB_iff]; omega
      · rfl
  · unfold one
    simp only [List.all_cons, List.all_nil, Bool.and_true]
    refine hall _ fun h => ?_
    show (jud (one s)).1 = n
    rw [hj]
    split
    · rename_i h
      exact (hv.cat (i := 0) h).2.2.2.1.1
    · rw [if_pos (by omega)]
      rename_i h1
      have h2 : 0 < s.parts.length := by omega
      exact (hv.part (s.parts.getD 0 default) (by rw [at_lt h2]; exact List.getElem_mem _)).1.1
theorem con_ok {r : Rul} {l : List Ska} (h : conOk r l = true) : r.ok = true := by
  unfold conOk at h
  simp only [Bool.and_eq_true] at h
  exact h.1.1
def callS (s : Ska) (k : Nat) (c : Cal) : Ska := { s with calls := s.calls.set k c }
end Go.Proofs.Ytapglfcaghlpfaa
