/- A part of the proof that the last text ends: what functions of the program do, told by plain data. -/
import Derived.Test.YtofbbkacihnjdaaDoorHPa
set_option linter.unusedVariables false
set_option linter.unusedSimpArgs false
namespace Go.Proofs.YtofbbkacihnjdaaDoor
open Go Go.E Go.Maps
set_option maxRecDepth 100000
set_option maxHeartbeats 1000000
theorem er_zero {t : Tt} {p : List Int} {i : Nat} : erR t p i = 0 ↔ p.getD i default < 0 ∨ (mayB (t.groups.getD (p.getD i default).toNat default) (t.hours.getD i default) = true ∧ (cnG p (i + 1) (p.getD i default) : Int) ≤ (t.groups.getD (p.getD i default).toNat default).most ∧ ¬ (neB t i = true ∧ 0 ≤ p.getD (i - 1) default ∧ ¬ p.getD (i - 1) default = p.getD i default)) := by
  unfold erR
  by_cases c1 : p.getD i default < 0
  · rw [if_pos c1]; exact ⟨fun _ => .inl c1, fun _ => rfl⟩
  rw [if_neg c1]
  by_cases c2 : mayB (t.groups.getD (p.getD i default).toNat default) (t.hours.getD i default) = true
  case neg =>
    rw [if_pos c2]
    exact ⟨fun h => absurd h (by decide), fun h => by rcases h with h | h; exact absurd h c1; exact absurd h.1 c2⟩
  rw [if_neg (fun h => h c2)]
  by_cases c3 : (t.groups.getD (p.getD i default).toNat default).most < (cnG p (i + 1) (p.getD i default) : Int)
  · rw [if_pos c3]
    refine ⟨fun h => absurd h (by decide), fun h => ?_⟩
    rcases h with h | h
    · exact absurd h c1
    · have := h.2.1; omega
  rw [if_neg c3]
  by_cases c4 : neB t i = true ∧ 0 ≤ p.getD (i - 1) default ∧ ¬ p.getD (i - 1) default = p.getD i default
  · rw [if_pos c4]
    exact ⟨fun h => absurd h (by decide), fun h => by rcases h with h | h; exact absurd h c1; exact absurd c4 h.2.2⟩
  · rw [if_neg c4]
    exact ⟨fun _ => .inr ⟨c2, by omega, c4⟩, fun _ => rfl⟩
theorem tt_iff {t : Tt} : ttOk t = true ↔ ((t.groups.length : Int) ≤ 5 ∧ (t.hours.length : Int) ≤ 12 ∧ inB t.res 0 120 = true) ∧ t.groups.all grOk = true ∧ ∀ i, i < t.hours.length → hrAt t.hours i = true := by
  constructor
  · intro h
    unfold ttOk at h
    simp only [Bool.and_eq_true, decide_eq_true_eq] at h
    exact ⟨⟨h.1, h.2.1, h.2.2.1⟩, h.2.2.2.1, fun i hi => List.all_eq_true.1 h.2.2.2.2 i (List.mem_range.2 hi)⟩
  · rintro ⟨h1, h2, h3⟩
    exact tt_end h1 h2 h3
theorem pl_of {t : Tt} {p : List Int} (h : foP t p) (hl : p.length = t.hours.length) : plOk t p = true := by
  unfold plOk
  rw [Bool.and_eq_true, decide_eq_true_eq]
  refine ⟨all_get.2 fun j hj => ?_, by omega⟩
  rw [inB_iff]
  have := h j hj
  omega
theorem goP_mono {t t' : Tt} (hh : t'.hours = t.hours) (hl : t'.groups.length = t.groups.length) (hr : t'.res ≤ t.res) (hg : ∀ g, g < t.groups.length → (t.groups.getD g default).most ≤ (t'.groups.getD g default).most ∧ ∀ i, i < t.hours.length → mayB (t.groups.getD g default) (t.hours.getD i default) = true → mayB (t'.groups.getD g default) (t.hours.getD i default) = true) {q : List Int} (h : goP t q) : goP t' q := by
  have hf := pl_fo h.1
  refine ⟨pl_of (fun j hj => by rw [hl]; exact hf.1 j hj) (by rw [hh]; exact hf.2), fun i hi => ?_⟩
  have h1 := er_zero.1 (h.2 i hi)
  rw [er_zero]
  rcases h1 with h1 | ⟨h1, h2, h3⟩
  · exact .inl h1
  by_cases c : q.getD i default < 0
  · exact .inl c
  have hb := hf.1 i hi
  have hG := hg (q.getD i default).toNat (by omega)
  refine .inr ⟨?_, by omega, fun h4 => h3 ⟨?_, h4.2⟩⟩
  · rw [hh]; exact hG.2 i (by omega) h1
  · have := neB_iff.1 h4.1
    rw [hh] at this
    exact neB_iff.2 ⟨this.1, this.2.1, by omega⟩
theorem hasL_cong {t t' : Tt} (hl : t'.groups.length = t.groups.length) (hc : ∀ g, g < t.groups.length → (t'.groups.getD g default).cred = (t.groups.getD g default).cred) {q : List Int} : hasL t' q = hasL t q := by
  unfold hasL hasN
  rw [hl]
  apply List.map_congr_left
  intro g hg
  rw [hc g (List.mem_range.1 hg)]
theorem sort_uniq {a b : List Int} (h : a.Perm b) (ha : Srt a) (hb : Srt b) : a = b := h.eq_of_pairwise (fun x y _ _ h1 h2 => Int.le_antisymm h1 h2) ha hb
theorem isort_eq {a b : List Int} (h : a.Perm b) : isort a = isort b := sort_uniq (isort_perm.trans (h.trans isort_perm.symm)) isort_srt isort_srt
def lesT (t : Tt) (k : Nat) : Tt := ⟨t.hours.take k ++ t.hours.drop (k + 1), t.groups, t.res⟩
def insP (q : List Int) (k : Nat) : List Int := q.take k ++ (-1 : Int) :: q.drop k
theorem les_len {t : Tt} {k : Nat} (hk : k < t.hours.length) : (lesT t k).hours.length + 1 = t.hours.length := by simp [lesT]; omega
theorem les_lo {t : Tt} {k i : Nat} (hk : k < t.hours.length) (hi : i < k) : (lesT t k).hours.getD i default = t.hours.getD i default := by
  have : (t.hours.take k).length = k := by rw [List.length_take]; omega
  simp [lesT, List.getD, List.getElem?_append, this, hi, List.getElem?_eq_getElem (show i < t.hours.length by omega)]
theorem les_hi {t : Tt} {k i : Nat} (hk : k < t.hours.length) (hi : k ≤ i) : (lesT t k).hours.getD i default = t.hours.getD (i + 1) default := by
  have : (t.hours.take k).length = k := by rw [List.length_take]; omega
  have h2 : ¬ i < k := by omega
  simp [lesT, List.getD, List.getElem?_append, this, h2]
  rw [show k + 1 + (i - k) = i + 1 by omega]
theorem ins_len {q : List Int} {k : Nat} (hk : k ≤ q.length) : (insP q k).length = q.length + 1 := by simp [insP]; omega
theorem ins_lo {q : List Int} {k i : Nat} (hk : k ≤ q.length) (hi : i < k) : (insP q k).getD i default = q.getD i default := by
  have : (q.take k).length = k := by rw [List.length_take]; omega
  simp [insP, List.getD, List.getElem?_append, this, hi, List.getElem?_eq_getElem (show i < q.length by omega)]
theorem ins_at {q : List Int} {k : Nat} (hk : k ≤ q.length) : (insP q k).getD k default = -1 := by
  have : (q.take k).length = k := by rw [List.length_take]; omega
  simp [insP, List.getD, List.getElem?_append, this]
theorem ins_hi {q : List Int} {k i : Nat} (hk : k ≤ q.length) (hi : k ≤ i) : (insP q k).getD (i + 1) default = q.getD i default := by
  have : (q.take k).length = k := by rw [List.length_take]; omega
  have h2 : ¬ i + 1 < k := by omega
  simp [insP, List.getD, List.getElem?_append, this, h2]
  rw [show i + 1 - k = (i - k) + 1 by omega, List.getElem?_cons_succ, List.getElem?_drop, show k + (i - k) = i by omega]
theorem cn_lo {q : List Int} {k i : Nat} (hk : k ≤ q.length) (hi : i ≤ k) {g : Int} : cnG (insP q k) i g = cnG q i g := by
  have : (q.take k).length = k := by rw [List.length_take]; omega
  unfold cnG insP
  rw [List.take_append_of_le_length (by omega), List.take_take, Nat.min_eq_left hi]
theorem cn_hi {q : List Int} {k i : Nat} (hk : k ≤ q.length) (hi : k ≤ i) {g : Int} (hg : 0 ≤ g) : cnG (insP q k) (i + 1) g = cnG q i g := by
  have h1 : (q.take k).length = k := by rw [List.length_take]; omega
  have h2 : ¬ (-1 : Int) = g := by omega
  obtain ⟨m, rfl⟩ : ∃ m, i = k + m := ⟨i - k, by omega⟩
  unfold cnG insP
  rw [List.take_append, h1, List.take_of_length_le (by omega), show k + m + 1 - k = m + 1 by omega, List.take_succ_cons, List.take_add, List.countP_append, List.countP_append, List.countP_cons]
  simp [h2]
theorem les_ok {t : Tt} (ht : ttOk t = true) {k : Nat} (hk : k < t.hours.length) : ttOk (lesT t k) = true := by
  have hl := les_len hk
  obtain ⟨⟨h1, h2, h3⟩, h4, h5⟩ := tt_iff.1 ht
  refine tt_iff.2 ⟨⟨h1, by omega, h3⟩, h4, fun i hi => ?_⟩
  have ok : ∀ i, i < t.hours.length → hrOk (t.hours.getD i default) = true ∧ (0 < i → orNo (t.hours.getD (i - 1) default) (t.hours.getD i default) = false) := fun i hi => by
    have := h5 i hi
    unfold hrAt at this
    simp only [Bool.and_eq_true, Bool.or_eq_true, decide_eq_true_eq, Bool.not_eq_true'] at this
    exact ⟨this.1, fun h0 => this.2.resolve_left (by omega)⟩
  unfold hrAt
  rw [Bool.and_eq_true, Bool.or_eq_true, decide_eq_true_eq, Bool.not_eq_true']
  rcases Nat.lt_or_ge i k with c | c
  · rw [les_lo hk c]
    refine ⟨(ok i (by omega)).1, ?_⟩
    by_cases z : i = 0
    · exact .inl z
    · rw [les_lo hk (by omega)]
      exact .inr ((ok i (by omega)).2 (by omega))
  · rw [les_hi hk c]
    refine ⟨(ok (i + 1) (by omega)).1, ?_⟩
    by_cases z : i = 0
    · exact .inl z
    · refine .inr ?_
      rcases Nat.lt_or_ge k i with d | d
      · rw [les_hi hk (by omega), show i - 1 + 1 = i by omega]
        exact (ok (i + 1) (by omega)).2 (by omega)
      · obtain rfl : i = k := by omega
        rw [les_lo hk (by omega)]
        have a := (ok i (by omega)).2 (by omega)
        have b := (ok (i + 1) (by omega)).2 (by omega)
        rw [show i + 1 - 1 = i by omega] at b
        have c := (ok i (by omega)).1
        unfold orNo at a b ⊢
        unfold hrOk at c
        simp only [Bool.or_eq_false_iff, Bool.and_eq_false_iff, decide_eq_false_iff_not, Bool.and_eq_true, Bool.not_eq_true'] at a b c ⊢
        omega
theorem ins_good {t : Tt} {k : Nat} (hk : k < t.hours.length) {q : List Int} (h : goP (lesT t k) q) : goP t (insP q k) ∧ hasL t (insP q k) = hasL (lesT t k) q := by
  have hf := pl_fo h.1
  have hl := les_len hk
  have hkq : k ≤ q.length := by omega
  have hil := ins_len hkq
  have hfo : foP t (insP q k) := fun j hj => by
    rcases Nat.lt_trichotomy j k with c | c | c
    · rw [ins_lo hkq c]; exact hf.1 j (by omega)
    · subst c; rw [ins_at hkq]; omega
    · obtain ⟨i, rfl⟩ : ∃ i, j = i + 1 := ⟨j - 1, by omega⟩
      rw [ins_hi hkq (by omega)]; exact hf.1 i (by omega)
  refine ⟨⟨pl_of hfo (by omega), fun j hj => ?_⟩, ?_⟩
  · rw [er_zero]
    rcases Nat.lt_trichotomy j k with c | c | c
    · have h1 := er_zero.1 (h.2 j (by omega))
      rw [ins_lo hkq c, ins_lo hkq (show j - 1 < k by omega), cn_lo hkq (by omega)]
      rw [les_lo hk c] at h1
      refine h1.imp id fun ⟨a, b, d⟩ => ⟨a, b, fun e => d ⟨?_, e.2⟩⟩
      have := neB_iff.1 e.1
      rw [neB_iff, les_lo hk c, les_lo hk (show j - 1 < k by omega)]
      exact this
    · subst c; rw [ins_at hkq]; exact .inl (by omega)
    · obtain ⟨i, rfl⟩ : ∃ i, j = i + 1 := ⟨j - 1, by omega⟩
      have h1 := er_zero.1 (h.2 i (by omega))
      rw [les_hi hk (by omega)] at h1
      rw [ins_hi hkq (show k ≤ i by omega)]
      by_cases n : q.getD i default < 0
      · exact .inl n
      obtain ⟨a, b, d⟩ := h1.resolve_left n
      refine .inr ⟨a, ?_, fun e => ?_⟩
      · rw [cn_hi hkq (show k ≤ i + 1 by omega) (by omega)]; exact b
      · rcases Nat.lt_or_ge k i with f | f
        · rw [show i + 1 - 1 = (i - 1) + 1 by omega, ins_hi hkq (by omega)] at e
          refine d ⟨?_, e.2⟩
          have := neB_iff.1 e.1
          rw [neB_iff, les_hi hk (by omega), les_hi hk (by omega), show i - 1 + 1 = i by omega]
          exact ⟨by omega, this.2⟩
        · obtain rfl : i = k := by omega
          rw [show i + 1 - 1 = i by omega, ins_at hkq] at e
          omega
  · unfold hasL hasN
    apply List.map_congr_left
    intro g hg
    rw [hil, cn_hi hkq (show k ≤ q.length by omega) (by omega)]
    rfl
theorem les_law {t : Tt} (ht : ttOk t = true) {k : Nat} (hk : k < t.hours.length) {p q : List Int} (hp : frR t = (p, 0)) (hq : frR (lesT t k) = (q, 0)) : cmpL (isort (hasL (lesT t k) q)) (isort (hasL t p)) ≤ 0 := by
  obtain ⟨p', h1, _, h2⟩ := fr_law ht
  obtain ⟨q', h3, h4, _⟩ := fr_law (les_ok ht hk)
  obtain rfl : p' = p := by rw [hp] at h1; cases h1; rfl
  obtain rfl : q' = q := by rw [hq] at h3; cases h3; rfl
  obtain ⟨g1, g2⟩ := ins_good hk h4
  have := (h2 _ g1).1
  unfold fairI at this
  rwa [g2] at this
theorem cmpL_neg' {t t' : Tt} (hl : t'.groups.length = t.groups.length) {p q : List Int} : cmpL (isort (hasL t' q)) (isort (hasL t p)) = - cmpL (isort (hasL t p)) (isort (hasL t' q)) := cmpL_neg (by rw [isort_len, isort_len, hasL_len, hasL_len, hl])
theorem more_fair {t t' : Tt} (ht : ttOk t = true) (ht' : ttOk t' = true) (hl : t'.groups.length = t.groups.length) (hc : ∀ g, g < t.groups.length → (t'.groups.getD g default).cred = (t.groups.getD g default).cred) (hm : ∀ q, goP t q → goP t' q) {p q : List Int} (hp : frR t = (p, 0)) (hq : frR t' = (q, 0)) : 0 ≤ cmpL (isort (hasL t' q)) (isort (hasL t p)) := by
  obtain ⟨p', h1, h2, _⟩ := fr_law ht
  obtain ⟨q', h3, _, h4⟩ := fr_law ht'
  obtain rfl : p' = p := by rw [hp] at h1; cases h1; rfl
  obtain rfl : q' = q := by rw [hq] at h3; cases h3; rfl
  have := (h4 _ (hm _ h2)).1
  unfold fairI at this
  rw [hasL_cong hl hc] at this
  rw [cmpL_neg' hl]; omega
def shoT (t : Tt) (m : Int) : Tt := ⟨t.hours, t.groups, max 0 (t.res - m)⟩
theorem sho_ok {t : Tt} (ht : ttOk t = true) {m : Int} (hm : 0 ≤ m) : ttOk (shoT t m) = true := by
  obtain ⟨⟨h1, h2, h3⟩, h4, h5⟩ := tt_iff.1 ht
  refine tt_iff.2 ⟨⟨h1, h2, ?_⟩, h4, h5⟩
  rw [inB_iff] at h3 ⊢
  unfold shoT
  dsimp only
  omega
theorem sho_law {t : Tt} (ht : ttOk t = true) {m : Int} (hm : 0 ≤ m) {p q : List Int} (hp : frR t = (p, 0)) (hq : frR (shoT t m) = (q, 0)) : 0 ≤ cmpL (isort (hasL (shoT t m) q)) (isort (hasL t p)) := by
  have h3 := (tt_hours ht).2.2
  refine more_fair ht (sho_ok ht hm) rfl (fun _ _ => rfl) (fun q h => goP_mono (t := t) (t' := shoT t m) rfl rfl ?_ (fun g _ => ⟨Int.le_refl _, fun _ _ h => h⟩) h) hp hq
  unfold shoT
  dsimp only
  omega
def widG (g : Gr) : Gr := ⟨127, g.early, g.late, g.most, g.cred⟩
def widT (t : Tt) (k : Nat) : Tt := ⟨t.hours, t.groups.set k (widG (t.groups.getD k default)), t.res⟩
theorem wid_at {t : Tt} {k g : Nat} (hk : k < t.groups.length) (hg : g < t.groups.length) : (widT t k).groups.getD g default = if g = k then widG (t.groups.getD k default) else t.groups.getD g default := by
  show (t.groups.set k (widG (t.groups.getD k default))).getD g default = _
  rw [at_lt (by simpa using hg), List.getElem_set, at_lt hg]
  by_cases c : g = k
  · rw [if_pos c.symm, if_pos c]
  · rw [if_neg (fun h => c h.symm), if_neg c]
theorem wid_len {t : Tt} {k : Nat} : (widT t k).groups.length = t.groups.length := by simp [widT]
theorem day_all {d : Int} (h : 0 ≤ d ∧ d ≤ 6) : dayB 127 d = true := by
  rcases (show d = 0 ∨ d = 1 ∨ d = 2 ∨ d = 3 ∨ d = 4 ∨ d = 5 ∨ d = 6 by omega) with rfl | rfl | rfl | rfl | rfl | rfl | rfl <;> decide
theorem wid_ok {t : Tt} (ht : ttOk t = true) {k : Nat} (hk : k < t.groups.length) : ttOk (widT t k) = true := by
  obtain ⟨⟨h1, h2, h3⟩, h4, h5⟩ := tt_iff.1 ht
  refine tt_iff.2 ⟨⟨by rw [wid_len]; exact h1, h2, h3⟩, all_get.2 fun j hj => ?_, h5⟩
  rw [wid_len] at hj
  rw [wid_at hk hj]
  split
  · have := all_get.1 h4 k hk
    unfold grOk widG at *
    dsimp only
    simp only [Bool.and_eq_true] at this ⊢
    exact ⟨by decide, this.2⟩
  · exact all_get.1 h4 j hj
theorem wid_law {t : Tt} (ht : ttOk t = true) {k : Nat} (hk : k < t.groups.length) {p q : List Int} (hp : frR t = (p, 0)) (hq : frR (widT t k) = (q, 0)) : 0 ≤ cmpL (isort (hasL (widT t k) q)) (isort (hasL t p)) := by
  refine more_fair ht (wid_ok ht hk) wid_len (fun g hg => ?_) (fun q h => goP_mono (t := t) (t' := widT t k) rfl wid_len (Int.le_refl _) (fun g hg => ?_) h) hp hq
  · rw [wid_at hk hg]
    split
    · rename_i c; rw [c]; rfl
    · rfl
  · rw [wid_at hk hg]
    split
    · rename_i c; rw [c]
      refine ⟨Int.le_refl _, fun i hi hm => ?_⟩
      unfold mayB at hm ⊢
      simp only [Bool.and_eq_true] at hm ⊢
      exact ⟨day_all (tt_hour ht hi).1, hm.2⟩
    · exact ⟨Int.le_refl _, fun _ _ h => h⟩
def rcG (m : Int) (g : Gr) : Gr := ⟨g.days, g.early, g.late, g.most, g.cred + m⟩
def rcT (t : Tt) (m : Int) : Tt := ⟨t.hours, t.groups.map (rcG m), t.res⟩
theorem rc_len {t : Tt} {m : Int} : (rcT t m).groups.length = t.groups.length := by simp [rcT]
theorem rc_at {t : Tt} {m : Int} {g : Nat} (hg : g < t.groups.length) : (rcT t m).groups.getD g default = rcG m (t.groups.getD g default) := by
  rw [at_lt (by rw [rc_len]; exact hg), at_lt hg]
  simp [rcT]
theorem rc_ok {t : Tt} (ht : ttOk t = true) {m : Int} (hm : 0 ≤ m) (hc : ∀ g, g < t.groups.length → (t.groups.getD g default).cred + m ≤ 1000) : ttOk (rcT t m) = true := by
  obtain ⟨⟨h1, h2, h3⟩, h4, h5⟩ := tt_iff.1 ht
  refine tt_iff.2 ⟨⟨by rw [rc_len]; exact h1, h2, h3⟩, all_get.2 fun j hj => ?_, h5⟩
  rw [rc_len] at hj
  rw [rc_at hj]
  have := all_get.1 h4 j hj
  have hc' := hc j hj
  unfold grOk rcG at *
  dsimp only
  simp only [Bool.and_eq_true] at this ⊢
  refine ⟨this.1, this.2.1, this.2.2.1, this.2.2.2.1, ?_⟩
  have h9 := this.2.2.2.2
  rw [inB_iff] at h9 ⊢
  omega
theorem rc_go {t : Tt} {m : Int} {q : List Int} : goP (rcT t m) q ↔ goP t q := by
  have hz : ∀ g, g < t.groups.length → (rcT t m).groups.getD g default = rcG m (t.groups.getD g default) := fun g hg => rc_at hg
  constructor
  · intro h
    refine goP_mono (t := rcT t m) (t' := t) rfl rc_len.symm (Int.le_refl _) (fun g hg => ?_) h
    rw [rc_len] at hg
    rw [hz g hg]
    exact ⟨Int.le_refl _, fun _ _ h => h⟩
  · intro h
    refine goP_mono (t := t) (t' := rcT t m) rfl rc_len (Int.le_refl _) (fun g hg => ?_) h
    rw [hz g hg]
    exact ⟨Int.le_refl _, fun _ _ h => h⟩
theorem rc_has {t : Tt} {m : Int} {q : List Int} : hasL (rcT t m) q = (hasL t q).map (· + m) := by
  unfold hasL hasN
  rw [rc_len, List.map_map]
  apply List.map_congr_left
  intro g hg
  have hg := List.mem_range.1 hg
  rw [rc_at hg]
  simp only [Function.comp_apply, if_pos hg]
  unfold rcG
  dsimp only
  omega
theorem isort_add {l : List Int} {m : Int} : isort (l.map (· + m)) = (isort l).map (· + m) := by
  refine sort_uniq (isort_perm.trans (isort_perm.symm.map _)) isort_srt ?_
  rw [Srt, List.pairwise_map]
  exact isort_srt.imp fun h => by omega
theorem cmpN_add {x y : List Int} {m : Int} : ∀ k i, i + k ≤ x.length → i + k ≤ y.length → cmpN (x.map (· + m)) (y.map (· + m)) k i = cmpN x y k i
  | 0, _, _, _ => rfl
  | k + 1, i, hx, hy => by
    have ex : (x.map (· + m)).getD i default = x.getD i default + m := by rw [at_lt (by simp; omega), at_lt (by omega)]; simp
    have ey : (y.map (· + m)).getD i default = y.getD i default + m := by rw [at_lt (by simp; omega), at_lt (by omega)]; simp
    unfold cmpN
    rw [ex, ey, cmpN_add k (i + 1) (by omega) (by omega)]
    by_cases c1 : y.getD i default < x.getD i default
    · rw [if_pos c1, if_pos (by omega)]
    rw [if_neg c1, if_neg (by omega)]
    by_cases c2 : x.getD i default < y.getD i default
    · rw [if_pos c2, if_pos (by omega)]
    rw [if_neg c2, if_neg (by omega)]
theorem rc_fair {t : Tt} {m : Int} {p q : List Int} : fairI (rcT t m) p q = fairI t p q := by
  unfold fairI cmpL
  rw [rc_has, rc_has, isort_add, isort_add, List.length_map]
  exact cmpN_add _ _ (by omega) (by rw [isort_len, isort_len, hasL_len, hasL_len]; omega)
theorem rc_law {t : Tt} (ht : ttOk t = true) {m : Int} (hm : 0 ≤ m) (hc : ∀ g, g < t.groups.length → (t.groups.getD g default).cred + m ≤ 1000) : frR (rcT t m) = frR t := by
  obtain ⟨p, h1, h2⟩ := fr_law ht
  obtain ⟨q, h3, h4⟩ := fr_law (rc_ok ht hm hc)
  rw [h1, h3, fr_uniq h2 ⟨rc_go.1 h4.1, fun u hu => by
    have := h4.2 u (rc_go.2 hu)
    rwa [rc_fair] at this⟩]
def turT (t : Tt) (k : Nat) : Tt := ⟨t.hours, t.groups.drop k ++ t.groups.take k, t.res⟩
def sgR (n k g : Int) : Int := if g < 0 then g else if g < k then g + (n - k) else g - k
theorem tur_len {t : Tt} {k : Nat} (hk : k ≤ t.groups.length) : (turT t k).groups.length = t.groups.length := by simp [turT]; omega
theorem tur_back {t : Tt} {k : Nat} (hk : k ≤ t.groups.length) : turT (turT t k) (t.groups.length - k) = t := by
  unfold turT
  dsimp only
  have h1 : (t.groups.drop k).length = t.groups.length - k := by simp
  rw [List.drop_left' h1, List.take_left' h1, List.take_append_drop]
theorem tur_lo {t : Tt} {k j : Nat} (hk : k ≤ t.groups.length) (hj : j < t.groups.length - k) : (turT t k).groups.getD j default = t.groups.getD (j + k) default := by
  have h1 : (t.groups.drop k).length = t.groups.length - k := by simp
  simp [turT, List.getD, List.getElem?_append, hj, Nat.add_comm, List.getElem?_eq_getElem (show k + j < t.groups.length by omega)]
theorem tur_hi {t : Tt} {k j : Nat} (hk : k ≤ t.groups.length) (hj : j < k) : (turT t k).groups.getD (j + (t.groups.length - k)) default = t.groups.getD j default := by
  have h1 : (t.groups.drop k).length = t.groups.length - k := by simp
  have h2 : ¬ j + (t.groups.length - k) < t.groups.length - k := by omega
  simp [turT, List.getD, List.getElem?_append, List.getElem?_take, hj]
  rw [if_neg h2]
theorem tur_at {t : Tt} {k : Nat} (hk : k ≤ t.groups.length) {g : Int} (hg : 0 ≤ g ∧ g < t.groups.length) : (turT t k).groups.getD (sgR t.groups.length k g).toNat default = t.groups.getD g.toNat default := by
  unfold sgR
  rw [if_neg (by omega)]
  split
  · rw [show (g + ((t.groups.length : Int) - k)).toNat = g.toNat + (t.groups.length - k) by omega, tur_hi hk (by omega)]
  · rw [tur_lo hk (by omega), show (g - (k : Int)).toNat + k = g.toNat by omega]
theorem sg_inj {n k a b : Int} (hk : 0 ≤ k ∧ k ≤ n) (ha : -1 ≤ a ∧ a < n) (hb : -1 ≤ b ∧ b < n) (h : sgR n k a = sgR n k b) : a = b := by
  unfold sgR at h
  repeat' split at h
  all_goals omega
theorem sg_b {n k a : Int} (hk : 0 ≤ k ∧ k ≤ n) (ha : -1 ≤ a ∧ a < n) : -1 ≤ sgR n k a ∧ sgR n k a < n ∧ (sgR n k a < 0 ↔ a < 0) := by
  unfold sgR
  repeat' split
  all_goals omega
theorem map_at {f : Int → Int} {q : List Int} {i : Nat} (h : i < q.length) : (q.map f).getD i default = f (q.getD i default) := by
  rw [at_lt (by simpa using h), at_lt h, List.getElem_map]
theorem tur_cn {n k : Int} (hk : 0 ≤ k ∧ k ≤ n) {q : List Int} (hf : ∀ j, j < q.length → -1 ≤ q.getD j default ∧ q.getD j default < n) {i : Nat} {g : Int} (hg : -1 ≤ g ∧ g < n) : cnG (q.map (sgR n k)) i (sgR n k g) = cnG q i g := by
  unfold cnG
  rw [← List.map_take, List.countP_map]
  apply List.countP_congr
  intro x hx
  obtain ⟨j, hj, rfl⟩ := List.getElem_of_mem (List.mem_of_mem_take hx)
  have hb := hf j hj
  rw [at_lt hj] at hb
  simp only [Function.comp_apply, decide_eq_true_eq]
  exact ⟨fun h => sg_inj hk hb hg h, fun h => by rw [h]⟩
theorem tur_ok {t : Tt} (ht : ttOk t = true) {k : Nat} (hk : k ≤ t.groups.length) : ttOk (turT t k) = true := by
  obtain ⟨⟨h1, h2, h3⟩, h4, h5⟩ := tt_iff.1 ht
  refine tt_iff.2 ⟨⟨by rw [tur_len hk]; exact h1, h2, h3⟩, ?_, h5⟩
  rw [List.all_eq_true] at h4 ⊢
  intro x hx
  rcases List.mem_append.1 hx with h | h
  · exact h4 x (List.mem_of_mem_drop h)
  · exact h4 x (List.mem_of_mem_take h)
theorem tur_go {t : Tt} {k : Nat} (hk : k ≤ t.groups.length) {q : List Int} (h : goP t q) : goP (turT t k) (q.map (sgR t.groups.length k)) ∧ isort (hasL (turT t k) (q.map (sgR t.groups.length k))) = isort (hasL t q) := by
  have hf := pl_fo h.1
  have hkI : (0 : Int) ≤ k ∧ (k : Int) ≤ t.groups.length := by omega
  have hlen : (q.map (sgR t.groups.length k)).length = q.length := by simp
  refine ⟨⟨pl_of (fun j hj => ?_) (by rw [hlen]; exact hf.2), fun i hi => ?_⟩, ?_⟩
  · rw [hlen] at hj
    rw [map_at hj, tur_len hk]
    have := sg_b hkI (hf.1 j hj)
    omega
  · rw [hlen] at hi
    have hb := hf.1 i hi
    have hs := sg_b hkI hb
    have h1 := er_zero.1 (h.2 i hi)
    rw [er_zero, map_at hi, map_at (show i - 1 < q.length by omega)]
    by_cases n : q.getD i default < 0
    · exact .inl (hs.2.2.2 n)
    obtain ⟨a, b, d⟩ := h1.resolve_left n
    refine .inr ?_
    rw [tur_at hk (by omega), tur_cn hkI hf.1 hb]
    refine ⟨a, b, fun e => d ⟨e.1, ?_, fun c => e.2.2 (by rw [c])⟩⟩
    have hs' := sg_b hkI (hf.1 (i - 1) (by omega))
    omega
  · refine isort_eq ?_
    have he : hasL (turT t k) (q.map (sgR t.groups.length k)) = (hasL t q).drop k ++ (hasL t q).take k := by
      have hla := hasL_len (t := turT t k) (p := q.map (sgR t.groups.length k))
      have hlb := hasL_len (t := t) (p := q)
      rw [tur_len hk] at hla
      apply List.ext_getElem (by rw [hla, List.length_append, List.length_drop, List.length_take, hlb]; omega)
      intro j h1 h2
      rw [hla] at h1
      have key : ∀ g : Nat, g < t.groups.length → ∀ j : Nat, (j : Int) = sgR t.groups.length k g → (hasL (turT t k) (q.map (sgR t.groups.length k))).getD j default = (hasL t q).getD g default := fun g hg j hj => by
        have hs := sg_b hkI (a := (g : Int)) (by omega)
        have hjn : j < t.groups.length := by omega
        unfold hasL
        rw [hasN_at (by rw [tur_len hk]; exact hjn), hasN_at hg, hlen, if_pos (by rw [tur_len hk]; exact hjn), if_pos hg, hj, tur_cn hkI hf.1 (by omega)]
        have := tur_at hk (g := (g : Int)) (by omega)
        rw [← hj, Int.toNat_natCast, Int.toNat_natCast] at this
        rw [this]
      rw [← at_lt]
      rw [List.getElem_append]
      split
      · rename_i c
        rw [List.length_drop, hlb] at c
        rw [List.getElem_drop, ← at_lt]
        exact key _ (by omega) _ (by unfold sgR; rw [if_neg (by omega), if_neg (by omega)]; omega)
      · rename_i c
        rw [List.length_drop, hlb] at c
        rw [List.getElem_take, ← at_lt]
        rw [List.length_drop, hlb]
        exact key _ (by omega) _ (by unfold sgR; rw [if_neg (by omega), if_pos (by omega)]; omega)
    rw [he]
    exact List.perm_append_comm.trans (by rw [List.take_append_drop])
theorem tur_law {t : Tt} (ht : ttOk t = true) {k : Nat} (hk : k ≤ t.groups.length) {p q : List Int} (hp : frR t = (p, 0)) (hq : frR (turT t k) = (q, 0)) : cmpL (isort (hasL (turT t k) q)) (isort (hasL t p)) = 0 := by
  obtain ⟨p', h1, h2, h5⟩ := fr_law ht
  obtain ⟨q', h3, h4, h6⟩ := fr_law (tur_ok ht hk)
  obtain rfl : p' = p := by rw [hp] at h1; cases h1; rfl
  obtain rfl : q' = q := by rw [hq] at h3; cases h3; rfl
  have hl := tur_len hk
  obtain ⟨a1, a2⟩ := tur_go hk h2
  obtain ⟨b1, b2⟩ := tur_go (t := turT t k) (k := t.groups.length - k) (by omega) h4
  rw [tur_back hk] at b1 b2
  have x := (h6 _ a1).1
  have y := (h5 _ b1).1
  unfold fairI at x y
  rw [a2] at x
  rw [b2] at y
  have := cmpL_neg' (t := t) (t' := turT t k) hl (p := p') (q := q')
  omega
end Go.Proofs.YtofbbkacihnjdaaDoor
