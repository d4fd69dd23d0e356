/- A part of the proof that the last text ends: what functions of the program do, told by plain data. -/
import Derived.Test.YtofbbkacihnjdaaTIp
import Derived.Test.YtofbbkacihnjdaaTIh
set_option linter.unusedVariables false
set_option linter.unusedSimpArgs false
namespace Go.Proofs.Ytofbbkacihnjdaa.Ic
open Go Go.E Go.Maps
def sI (x : Ev) (t : Pn) : Pn := if x.kind = 0 then t.more x.a else t.less x.a
theorem sZ_nth {x : Ev} {s : Rs} {i j : Nat} (hi : i < s.z.length) : ((sZ x s i).z.getD j default).ice = if j = i then sI x (s.z.getD i default).ice else (s.z.getD j default).ice := by
  have key : ∀ (p : Pn), ((s.z.set i ⟨p, (s.z.getD i default).paint⟩).getD j default).ice = if j = i then p else (s.z.getD j default).ice := fun p => by
    rw [List.getD_eq_getElem?_getD, List.getElem?_set]
    by_cases h : i = j
    · subst h; simp [hi]
    · rw [if_neg h, if_neg (fun e => h e.symm), List.getD_eq_getElem?_getD]
  unfold sZ sI
  split
  · exact key _
  split
  · exact key _
  · exact key _
theorem sZ_fz {x : Ev} {s : Rs} {i : Nat} : (sZ x s i).fz = if x.kind = 0 then s.fz.more x.a else s.fz := by
  unfold sZ
  split
  · rfl
  split <;> rfl
theorem bZ_at {x : Ev} {s : Rs} {i : Nat} : bZ x s i = true ↔ x.kind = 0 ∧ 20000 < (sI x (s.z.getD i default).ice).hi := by
  unfold bZ sI
  rw [Bool.and_eq_true, decide_eq_true_eq, decide_eq_true_eq]
  refine and_congr_right fun h => ?_
  rw [if_pos h]; rfl
theorem evN_spec {x : Ev} {n : Nat} : ∀ k j (s : Rs), j + k = n → s.z.length = n → (∀ i, j ≤ i → i < n → ¬ (x.kind = 0 ∧ 20000 < (sI x (s.z.getD i default).ice).hi)) →
    (evN x k j s).2 = true ∧ (∀ i, i < n → ((evN x k j s).1.z.getD i default).ice = if j ≤ i then sI x (s.z.getD i default).ice else (s.z.getD i default).ice) ∧ (evN x k j s).1.fz = if x.kind = 0 then ⟨s.fz.lo + k * x.a.lo, s.fz.hi + k * x.a.hi⟩ else s.fz
  | 0, j, s, hj, hn, h => by
    rw [evN]
    refine ⟨rfl, fun i hi => by rw [if_neg (by omega)], ?_⟩
    split
    · simp
    · rfl
  | k + 1, j, s, hj, hn, h => by
    rw [evN, if_neg (fun hb => h j (Nat.le_refl _) (by omega) (bZ_at.1 hb))]
    obtain ⟨h1, h2, h3⟩ := evN_spec (n := n) k (j + 1) (sZ x s j) (by omega) (by rw [sZ_len]; exact hn) (fun i hi1 hi2 => by rw [sZ_nth (i := j) (j := i) (by omega), if_neg (by omega)]; exact h i (by omega) hi2)
    refine ⟨h1, fun i hi => ?_, ?_⟩
    · rw [h2 i hi, sZ_nth (i := j) (j := i) (by omega)]
      by_cases hij : i = j
      · subst hij; rw [if_neg (by omega), if_pos rfl, if_pos (Nat.le_refl _)]
      · rw [if_neg hij]
        by_cases hle : j + 1 ≤ i
        · rw [if_pos hle, if_pos (by omega)]
        · rw [if_neg hle, if_neg (by omega)]
    · rw [h3, sZ_fz]
      split
      · unfold Pn.more
        have e1 : ((k + 1 : Nat) : Int) = (k : Int) + 1 := by push_cast; rfl
        rw [e1, Int.add_mul, Int.add_mul]
        simp only [Int.one_mul]
        rw [Pn.mk.injEq]
        constructor <;> omega
      · rfl
theorem evN_fail {x : Ev} {n : Nat} : ∀ k j (s : Rs), j + k = n → s.z.length = n → (∃ i, j ≤ i ∧ i < n ∧ (x.kind = 0 ∧ 20000 < (sI x (s.z.getD i default).ice).hi)) → (evN x k j s).2 = false
  | 0, j, s, hj, hn, ⟨i, h1, h2, _⟩ => by omega
  | k + 1, j, s, hj, hn, ⟨i, h1, h2, h3⟩ => by
    rw [evN]
    by_cases hb : bZ x s j = true
    · rw [if_pos hb]
    rw [if_neg hb]
    have hij : i ≠ j := fun e => hb (bZ_at.2 (by rw [← e]; exact h3))
    exact evN_fail k (j + 1) (sZ x s j) (by omega) (by rw [sZ_len]; exact hn) ⟨i, by omega, h2, by rw [sZ_nth (i := j) (j := i) (by omega), if_neg hij]; exact h3⟩
structure Day (r : List Zo) (worn planed : Pn) (w : Int) (d : Nat) (s : Rs) : Prop where
  n : s.z.length = r.length
  z : ∀ i, i < r.length → (s.z.getD i default).ice = psN worn planed w (r.getD i default).ice d
  fz : s.fz = ⟨(d : Int) * r.length * w, (d : Int) * r.length * w⟩
theorem Day.zero {r : List Zo} {worn planed : Pn} {w : Int} : Day r worn planed w 0 (r0 r) := ⟨rfl, fun _ _ => rfl, by simp [r0]⟩
theorem plN_1 {l : List Ev} {k i n : Nat} {s y : Rs} {x : Ev} (hx : l.getD i default = x) (hn : s.z.length = n) (h : evN x n 0 s = (y, true)) : plN' l (k + 1) i s = plN' l k (i + 1) y := by
  rw [plN', hx, hn, h, if_pos rfl]
theorem plN_0 {l : List Ev} {k i n : Nat} {s : Rs} {x : Ev} (hx : l.getD i default = x) (hn : s.z.length = n) (h : (evN x n 0 s).2 = false) : (plN' l (k + 1) i s).2.2 = 12 := by
  rw [plN', hx, hn, if_neg (by rw [h]; decide)]
theorem evN_len {x : Ev} {k j : Nat} {s : Rs} : (evN x k j s).1.z.length = s.z.length := by
  induction k generalizing j s with
  | zero => rfl
  | succ k ih =>
    rw [evN]
    split
    · exact sZ_len
    · rw [ih, sZ_len]
section
variable {r : List Zo} {worn planed : Pn} {w : Int}
theorem day_up {d : Nat} {s : Rs} (h : Day r worn planed w d s) {l : List Ev} {i f : Nat} (h0 : l.getD i default = ⟨2, worn⟩) (h1 : l.getD (i + 1) default = ⟨1, planed⟩) (h2 : l.getD (i + 2) default = ⟨0, ⟨w, w⟩⟩) :
    ((∀ j, j < r.length → (psN worn planed w (r.getD j default).ice (d + 1)).hi ≤ 20000) → ∃ y, Day r worn planed w (d + 1) y ∧ plN' l (f + 3) i s = plN' l f (i + 3) y) ∧
    ((∃ j, j < r.length ∧ 20000 < (psN worn planed w (r.getD j default).ice (d + 1)).hi) → (plN' l (f + 3) i s).2.2 = 12) := by
  obtain ⟨hn, hz, hf⟩ := h
  obtain ⟨a1, a2, a3⟩ := evN_spec (x := ⟨2, worn⟩) (n := r.length) r.length 0 s (by omega) hn (fun j _ _ hc => absurd hc.1 (by simp))
  obtain ⟨y1, hy1⟩ : ∃ y, (evN ⟨2, worn⟩ r.length 0 s).1 = y := ⟨_, rfl⟩
  rw [hy1] at a2 a3
  have hl1 : y1.z.length = r.length := by rw [← hy1, evN_len, hn]
  have e1 : evN ⟨2, worn⟩ r.length 0 s = (y1, true) := Prod.ext hy1 a1
  obtain ⟨b1, b2, b3⟩ := evN_spec (x := ⟨1, planed⟩) (n := r.length) r.length 0 y1 (by omega) hl1 (fun j _ _ hc => absurd hc.1 (by simp))
  obtain ⟨y2, hy2⟩ : ∃ y, (evN ⟨1, planed⟩ r.length 0 y1).1 = y := ⟨_, rfl⟩
  rw [hy2] at b2 b3
  have hl2 : y2.z.length = r.length := by rw [← hy2, evN_len, hl1]
  have e2 : evN ⟨1, planed⟩ r.length 0 y1 = (y2, true) := Prod.ext hy2 b1
  have hps : ∀ j, j < r.length → sI ⟨0, ⟨w, w⟩⟩ (y2.z.getD j default).ice = psN worn planed w (r.getD j default).ice (d + 1) := fun j hj => by
    rw [b2 j hj, if_pos (Nat.zero_le _), a2 j hj, if_pos (Nat.zero_le _), hz j hj]
    unfold sI
    rw [if_pos rfl, if_neg (by simp), if_neg (by simp)]
    rfl
  have st : plN' l (f + 3) i s = plN' l (f + 1) (i + 2) y2 := by
    rw [show f + 3 = (f + 2) + 1 by omega, plN_1 h0 hn e1, show f + 2 = (f + 1) + 1 by omega, plN_1 h1 hl1 e2]
  refine ⟨fun hc => ?_, fun ⟨j, hj, hc⟩ => ?_⟩
  · obtain ⟨c1, c2, c3⟩ := evN_spec (x := ⟨0, ⟨w, w⟩⟩) (n := r.length) r.length 0 y2 (by omega) hl2 (fun j _ hj hb => by
      have := hb.2
      rw [hps j hj] at this
      have := hc j hj
      omega)
    obtain ⟨y3, hy3⟩ : ∃ y, (evN ⟨0, ⟨w, w⟩⟩ r.length 0 y2).1 = y := ⟨_, rfl⟩
    rw [hy3] at c2 c3
    have hl3 : y3.z.length = r.length := by rw [← hy3, evN_len, hl2]
    refine ⟨y3, ⟨hl3, fun j hj => ?_, ?_⟩, ?_⟩
    · rw [c2 j hj, if_pos (Nat.zero_le _), hps j hj]
    · rw [c3, if_pos rfl, b3, if_neg (by simp), a3, if_neg (by simp), hf]
      dsimp only
      have e : ((d + 1 : Nat) : Int) * r.length * w = (d : Int) * r.length * w + (r.length : Int) * w := by
        rw [show ((d + 1 : Nat) : Int) = (d : Int) + 1 by push_cast; rfl, Int.add_mul, Int.add_mul, Int.one_mul]
      rw [e]
    · rw [st, plN_1 h2 hl2 (Prod.ext hy3 c1)]
  · rw [st]
    exact plN_0 h2 hl2 (evN_fail (n := r.length) r.length 0 y2 (by omega) hl2 ⟨j, Nat.zero_le _, hj, rfl, by rw [hps j hj]; exact hc⟩)
theorem ix_neg {least most : Int} {zs : List Zo} : ∀ k i, i + k = zs.length → (ixN least most zs k i < 0 ↔ ∀ j, i ≤ j → j < zs.length → outB least most (zs.getD j default) = false)
  | 0, i, h => by
    rw [ixN]
    exact ⟨fun _ j h1 h2 => by omega, fun _ => by decide⟩
  | k + 1, i, h => by
    rw [ixN]
    by_cases ho : outB least most (zs.getD i default) = true
    · rw [if_pos ho]
      refine ⟨fun hc => by omega, fun hc => ?_⟩
      have := hc i (Nat.le_refl _) (by omega)
      rw [ho] at this; cases this
    · rw [if_neg ho, ix_neg k (i + 1) (by omega)]
      refine ⟨fun hc j h1 h2 => ?_, fun hc j h1 h2 => hc j (by omega) h2⟩
      rcases Nat.lt_or_ge i j with h3 | h3
      · exact hc j h3 h2
      · rw [show j = i by omega]; simpa using ho
theorem ixR_neg {least most : Int} {zs : List Zo} : (¬ 0 ≤ ixR least most zs) ↔ ∀ j, j < zs.length → outB least most (zs.getD j default) = false := by
  have := ix_neg (least := least) (most := most) (zs := zs) zs.length 0 (by omega)
  unfold ixR
  rw [show (¬ (0 : Int) ≤ ixN least most zs zs.length 0) ↔ ixN least most zs zs.length 0 < 0 by omega, this]
  exact ⟨fun h j hj => h j (Nat.zero_le _) hj, fun h j _ hj => h j hj⟩
def Keep (r : List Zo) (worn planed : Pn) (w least most : Int) (d : Nat) : Prop := ∀ j, j < r.length → least ≤ (psN worn planed w (r.getD j default).ice (d + 1)).lo ∧ (psN worn planed w (r.getD j default).ice (d + 1)).hi ≤ most
theorem outB_no {least most : Int} {z : Zo} : outB least most z = false ↔ least ≤ z.ice.lo ∧ z.ice.hi ≤ most := by
  unfold outB
  rw [Bool.or_eq_false_iff, decide_eq_false_iff_not, decide_eq_false_iff_not]
  omega
theorem kpN_iff {least most : Int} (hm : most ≤ 20000) : ∀ k d (s : Rs), Day r worn planed w d s → ((kpN (dayE worn planed w) least most k d s).2.2 = 4 ↔ ∀ q, q < k → Keep r worn planed w least most (d + q))
  | 0, d, s, _ => by rw [kpN]; exact ⟨fun _ q hq => by omega, fun _ => rfl⟩
  | k + 1, d, s, hs => by
    have hpy : pyR (dayE worn planed w) s = plN' (dayE worn planed w) (0 + 3) 0 s := rfl
    obtain ⟨u1, u2⟩ := day_up hs (l := dayE worn planed w) (i := 0) (f := 0) rfl rfl rfl
    rw [kpN]
    by_cases hc : ∀ j, j < r.length → (psN worn planed w (r.getD j default).ice (d + 1)).hi ≤ 20000
    · obtain ⟨y, hy, he⟩ := u1 hc
      have he2 : pyR (dayE worn planed w) s = (y, 3, 0) := by rw [hpy, he, plN']
      rw [he2, if_pos rfl]
      dsimp only
      have hix : (¬ 0 ≤ ixR least most y.z) ↔ Keep r worn planed w least most d := by
        rw [ixR_neg, hy.n]
        exact ⟨fun h j hj => by have := outB_no.1 (h j hj); rw [hy.z j hj] at this; exact this, fun h j hj => outB_no.2 (by rw [hy.z j hj]; exact h j hj)⟩
      by_cases hi : 0 ≤ ixR least most y.z
      · rw [if_pos hi]
        refine ⟨fun h => (by cases h), fun h => ?_⟩
        exact absurd hi (hix.2 (h 0 (by omega)))
      · rw [if_neg hi, kpN_iff hm k (d + 1) y hy]
        refine ⟨fun h q hq => ?_, fun h q hq => by rw [show d + 1 + q = d + (q + 1) by omega]; exact h (q + 1) (by omega)⟩
        cases q with
        | zero => exact hix.1 hi
        | succ q => rw [show d + (q + 1) = d + 1 + q by omega]; exact h q (by omega)
    · obtain ⟨j, hj⟩ := Classical.not_forall.1 hc
      obtain ⟨hj1, hj2⟩ := Classical.not_imp.1 hj
      have h12 := u2 ⟨j, hj1, by omega⟩
      rw [← hpy] at h12
      rw [if_neg (by rw [h12]; decide), h12]
      refine ⟨fun h => (by cases h), fun h => ?_⟩
      have := (h 0 (by omega) j hj1).2
      simp only [Nat.add_zero] at this
      omega
theorem rep_at {D : List Ev} {p k c : Nat} (hk : k < p) (hc : c < D.length) : (repE D p).getD (D.length * k + c) default = D.getD c default := by
  induction p with
  | zero => omega
  | succ p ih =>
    rw [repE]
    rcases Nat.lt_or_ge k p with h | h
    · rw [← ih h, List.getD_eq_getElem?_getD, List.getD_eq_getElem?_getD, List.getElem?_append_left]
      rw [repE_len]
      calc D.length * k + c < D.length * k + D.length := by omega
        _ = D.length * (k + 1) := by rw [Nat.mul_succ]
        _ ≤ D.length * p := Nat.mul_le_mul_left _ h
    · have hkp : k = p := by omega
      subst hkp
      rw [List.getD_eq_getElem?_getD, List.getElem?_append_right (by rw [repE_len]; omega), repE_len, Nat.add_sub_cancel_left, List.getD_eq_getElem?_getD]
theorem play_all {p : Nat} (hk : ∀ d, d < p → ∀ j, j < r.length → (psN worn planed w (r.getD j default).ice (d + 1)).hi ≤ 20000) : ∃ y, Day r worn planed w p y ∧ pyR (repE (dayE worn planed w) p) (r0 r) = (y, 3 * p, 0) := by
  have key : ∀ k, k ≤ p → ∃ y, Day r worn planed w k y ∧ pyR (repE (dayE worn planed w) p) (r0 r) = plN' (repE (dayE worn planed w) p) (3 * (p - k)) (3 * k) y := by
    intro k
    induction k with
    | zero => intro _; exact ⟨r0 r, Day.zero, by unfold pyR; rw [repE_len]; rfl⟩
    | succ k ih =>
      intro hk1
      obtain ⟨y, hy, he⟩ := ih (by omega)
      have g : ∀ c, c < 3 → (repE (dayE worn planed w) p).getD (3 * k + c) default = (dayE worn planed w).getD c default := fun c hc => rep_at (D := dayE worn planed w) (by omega) hc
      obtain ⟨u1, _⟩ := day_up hy (l := repE (dayE worn planed w) p) (i := 3 * k) (f := 3 * (p - (k + 1))) (g 0 (by omega)) (g 1 (by omega)) (g 2 (by omega))
      obtain ⟨y2, hy2, he2⟩ := u1 (hk k (by omega))
      refine ⟨y2, hy2, ?_⟩
      rw [he, show 3 * (p - k) = 3 * (p - (k + 1)) + 3 by omega, he2]
      rfl
  obtain ⟨y, hy, he⟩ := key p (Nat.le_refl _)
  refine ⟨y, hy, ?_⟩
  rw [he, Nat.sub_self, Nat.mul_zero, plN']
theorem kpB_iff {p : Nat} {least most : Int} (h : KpOk r worn planed p least most w) : kpB r worn planed p least most w = true ↔ ∀ d, d < p → Keep r worn planed w least most d := by
  have hb := h.b
  rw [Bool.and_eq_true, inB_iff, inB_iff] at hb
  have hk := kpN_iff (least := least) (most := most) hb.1.2 p 0 (r0 r) (Day.zero (r := r) (worn := worn) (planed := planed) (w := w))
  simp only [Nat.zero_add] at hk
  refine ⟨fun hB => hk.1 ?_, fun hK => ?_⟩
  · unfold kpB at hB
    by_cases c : (kpR r (dayE worn planed w) p least most).2.2 = 4
    · exact c
    · rw [if_neg c] at hB; cases hB
  · have h4 := hk.2 hK
    obtain ⟨y, hy, he⟩ := play_all (r := r) (worn := worn) (planed := planed) (w := w) (p := p) (fun d hd j hj => by have := (hK d hd j hj).2; omega)
    unfold kpB
    rw [show (kpR r (dayE worn planed w) p least most).2.2 = 4 from h4, if_pos rfl, he]
    have hes : endS (y, 3 * p, (0 : Int)) = y := by unfold endS; rw [if_pos rfl]
    dsimp only
    rw [hes]
    have hany : y.z.any (outB least most) = false := by
      rw [List.any_eq_false]
      intro x hx
      obtain ⟨j, hj, rfl⟩ := List.getElem_of_mem hx
      have hp := h.p1
      have hjr : j < r.length := by rw [← hy.n]; exact hj
      have h1 := hK (p - 1) (by omega) j hjr
      rw [show p - 1 + 1 = p by omega, ← hy.z j hjr, at_lt hj] at h1
      rw [outB_no.2 h1]; decide
    rw [hany, if_neg (by decide), hy.fz, repE_len]
    simp
theorem mem_nth {P : Pn → Prop} : (∀ z ∈ r, P z.ice) ↔ ∀ j, j < r.length → P (r.getD j default).ice :=
  ⟨fun h j hj => by rw [at_lt hj]; exact h _ (List.getElem_mem _), fun h z hz => by
    obtain ⟨j, hj, rfl⟩ := List.getElem_of_mem hz
    have := h j hj
    rw [at_lt hj] at this; exact this⟩
theorem kp_law {p : Nat} {least most : Int} (h : KpOk r worn planed p least most w) : kpB r worn planed p least most w = true ↔ wtB r p worn planed true least w = true ∧ wtB r p worn planed false most w = false := by
  rw [kpB_iff h, wt_true, wt_false]
  rw [mem_nth (P := fun t => ∀ k, k < p → least ≤ (psN worn planed w t (k + 1)).lo), mem_nth (P := fun t => ∀ k, k < p → (psN worn planed w t (k + 1)).hi ≤ most)]
  exact ⟨fun hK => ⟨fun j hj k hk => (hK k hk j hj).1, fun j hj k hk => (hK k hk j hj).2⟩, fun ⟨h1, h2⟩ d hd j hj => ⟨h1 j hj d hd, h2 j hj d hd⟩⟩
end
end Go.Proofs.Ytofbbkacihnjdaa.Ic
