/- A part of the proof that the last text ends: what functions of the program do, told by plain data. -/
import Derived.Test.YtofbbkacihnjdaaIHU
set_option linter.unusedVariables false
set_option linter.unusedSimpArgs false
namespace Go.Proofs.Ytofbbkacihnjdaa
open Go Go.E Go.Maps
set_option maxRecDepth 100000
set_option maxHeartbeats 1000000
def stepP (t : Tt) (p : List Int) (k : Nat) : Prop := p.getD k default = -1 ∨ ∃ g : Nat, p.getD k default = (g : Int) ∧ g < t.groups.length ∧ chB t (sdP p k) g = true
def okF (t : Tt) (p : List Int) : Prop := p.length = t.hours.length ∧ ∀ k, k < p.length → stepP t p k
theorem le_all {t : Tt} (ht : ttOk t = true) {p : List Int} (he : ∀ k, k < p.length → leM t p k → erR t p k = 0) : ∀ k, k ≤ p.length → leM t p k
  | 0, _ => leM_zero ht
  | k + 1, hk => leM_next (le_all ht he k (by omega)) (by omega) (he k (by omega) (le_all ht he k (by omega)))
theorem go_okF {t : Tt} (ht : ttOk t = true) {p : List Int} : goP t p ↔ okF t p := by
  constructor
  · rintro ⟨h1, h2⟩
    have hf := pl_fo h1
    refine ⟨hf.2, fun k hk => ?_⟩
    have hb := hf.1 k hk
    by_cases c : p.getD k default = -1
    · exact .inl c
    · refine .inr ⟨(p.getD k default).toNat, by omega, by omega, ?_⟩
      have hl := le_all ht (fun j hj _ => h2 j hj) k (by omega)
      have hr := erS_R ht (fun h0 => (hf.1 (k - 1) (by omega)).1) hl hk hb
      unfold chB
      rw [decide_eq_true_eq, show (((p.getD k default).toNat : Nat) : Int) = p.getD k default by omega, hr]
      exact h2 k hk
  · rintro ⟨h1, h2⟩
    have hb : ∀ k, k < p.length → -1 ≤ p.getD k default ∧ p.getD k default < t.groups.length := fun k hk => by
      rcases h2 k hk with h | ⟨g, h, h3, _⟩
      · rw [h]; omega
      · rw [h]; omega
    have he : ∀ k, k < p.length → leM t p k → erR t p k = 0 := fun k hk hl => by
      have hr := erS_R ht (fun h0 => (hb (k - 1) (by omega)).1) hl hk (hb k hk)
      rcases h2 k hk with h | ⟨g, h, h3, h4⟩
      · exact er_neg (by omega)
      · rw [← hr, h]; exact of_decide_eq_true h4
    refine ⟨?_, fun j hj => he j hj (le_all ht he j (by omega))⟩
    unfold plOk
    rw [Bool.and_eq_true, decide_eq_true_eq]
    refine ⟨all_get.2 fun j hj => ?_, by omega⟩
    rw [inB_iff]
    have := hb j hj
    omega
def pth (t : Tt) : Sd → List Int → Prop
  | _, [] => True
  | s, g :: q => (g = -1 ∨ ∃ r : Nat, g = (r : Int) ∧ r < t.groups.length ∧ chB t s r = true) ∧ pth t (nxS s g) q
def rnS : Sd → List Int → Sd
  | s, [] => s
  | s, g :: q => rnS (nxS s g) q
theorem drop_at {p : List Int} {k : Nat} (h : k < p.length) : p.drop k = p.getD k default :: p.drop (k + 1) := by
  rw [at_lt h, ← List.drop_eq_getElem_cons h]
theorem okF_pth {t : Tt} (h5 : t.groups.length ≤ 5) {p : List Int} (h : okF t p) : ∀ m k, k + m = p.length → pth t (sdP p k) (p.drop k) ∧ rnS (sdP p k) (p.drop k) = sdP p p.length
  | 0, k, e => by
    rw [List.drop_eq_nil_of_le (by omega)]
    exact ⟨trivial, by rw [show k = p.length by omega]; rfl⟩
  | m + 1, k, e => by
    have hk : k < p.length := by omega
    obtain ⟨i1, i2⟩ := okF_pth h5 h m (k + 1) (by omega)
    have hs := h.2 k hk
    have hg : -1 ≤ p.getD k default ∧ p.getD k default ≤ 4 := by
      rcases hs with h | ⟨g, h, h3, _⟩ <;> rw [h] <;> omega
    rw [drop_at hk]
    unfold pth rnS
    rw [sdP_next hk hg]
    exact ⟨⟨hs, i1⟩, i2⟩
theorem pth_okF {t : Tt} (h5 : t.groups.length ≤ 5) {p : List Int} (hl : p.length = t.hours.length) (h : pth t bgS p) : okF t p := by
  have key : ∀ k, k ≤ p.length → pth t (sdP p k) (p.drop k) := by
    intro k
    induction k with
    | zero => intro _; rw [sdP_zero]; exact h
    | succ k ih =>
      intro hk
      have hk' : k < p.length := by omega
      have h1 := ih (by omega)
      rw [drop_at hk'] at h1
      unfold pth at h1
      have hg : -1 ≤ p.getD k default ∧ p.getD k default ≤ 4 := by
        rcases h1.1 with h | ⟨g, h, h3, _⟩ <;> rw [h] <;> omega
      rw [sdP_next hk' hg] at h1
      exact h1.2
  refine ⟨hl, fun k hk => ?_⟩
  have h1 := key k (by omega)
  rw [drop_at hk] at h1
  unfold pth at h1
  exact h1.1
theorem pth_snoc {t : Tt} {g : Int} : ∀ {p : List Int} {s : Sd}, pth t s p → (g = -1 ∨ ∃ r : Nat, g = (r : Int) ∧ r < t.groups.length ∧ chB t (rnS s p) r = true) → pth t s (p ++ [g]) ∧ rnS s (p ++ [g]) = nxS (rnS s p) g
  | [], s, _, h => ⟨⟨h, trivial⟩, rfl⟩
  | a :: p, s, h1, h => by
    obtain ⟨i1, i2⟩ := pth_snoc (p := p) (s := nxS s a) h1.2 h
    exact ⟨⟨h1.1, i1⟩, i2⟩
theorem stR_pth {t : Tt} : ∀ k s, stR t k s → ∃ q : List Int, q.length = k ∧ pth t bgS q ∧ rnS bgS q = s
  | 0, s, h => ⟨[], rfl, trivial, h.symm⟩
  | k + 1, u, ⟨s, h, hu⟩ => by
    obtain ⟨q, h1, h2, h3⟩ := stR_pth k s h
    rcases hu with hu | ⟨g, hg, hc, hu⟩
    · have := pth_snoc (g := -1) h2 (.inl rfl)
      exact ⟨q ++ [-1], by simp [h1], this.1, by rw [this.2, h3, hu]⟩
    · have := pth_snoc (g := (g : Int)) h2 (.inr ⟨g, rfl, hg, by rw [h3]; exact hc⟩)
      exact ⟨q ++ [(g : Int)], by simp [h1], this.1, by rw [this.2, h3, hu]⟩
theorem okF_stR {t : Tt} (h5 : t.groups.length ≤ 5) {p : List Int} (h : okF t p) : ∀ k, k ≤ p.length → stR t k (sdP p k)
  | 0, _ => sdP_zero
  | k + 1, hk => by
    have hs := h.2 k (by omega)
    have hg : -1 ≤ p.getD k default ∧ p.getD k default ≤ 4 := by
      rcases hs with h | ⟨g, h, h3, _⟩ <;> rw [h] <;> omega
    refine ⟨sdP p k, okF_stR h5 h k (by omega), ?_⟩
    rw [← sdP_next (by omega) hg]
    rcases hs with h | ⟨g, h, h3, h4⟩
    · rw [h]; exact .inl rfl
    · rw [h]; exact .inr ⟨g, h3, h4, rfl⟩
def lx : List Int → List Int → Prop
  | a :: p, b :: q => if a = b then lx p q else (b < 0 ∨ (0 ≤ a ∧ a < b))
  | _, _ => True
theorem lx_cons {a : Int} {p q : List Int} (h : lx p q) : lx (a :: p) (a :: q) := by
  unfold lx; rw [if_pos rfl]; exact h
theorem fsN_spec {t : Tt} {f : Sd → Option (List Int)} {s : Sd} : ∀ m, (∀ p, fsN t f s m = some p → ∃ r : Nat, r < m ∧ chB t s r = true ∧ ∃ q, f (nxS s (r : Int)) = some q ∧ p = (r : Int) :: q ∧ ∀ r' : Nat, r' < r → chB t s r' = true → f (nxS s (r' : Int)) = none) ∧ (fsN t f s m = none → ∀ r : Nat, r < m → chB t s r = true → f (nxS s (r : Int)) = none)
  | 0 => ⟨fun p h => by simp [fsN] at h, fun _ r hr => by omega⟩
  | m + 1 => by
    obtain ⟨i1, i2⟩ := fsN_spec (t := t) (f := f) (s := s) m
    cases h0 : fsN t f s m with
    | some p0 =>
      have hu := fsN_up h0 (m + 1) (by omega)
      refine ⟨fun p hp => ?_, fun hn => ?_⟩
      · rw [hu] at hp
        obtain ⟨r, hr, h⟩ := i1 p (h0.trans hp)
        exact ⟨r, by omega, h⟩
      · rw [hu] at hn; cases hn
    | none =>
      have hno := i2 h0
      by_cases hc : chB t s m = true
      · rw [fsN_yes h0 hc]
        refine ⟨fun p hp => ?_, fun hn r hr hcr => ?_⟩
        · obtain ⟨q, hq, hpq⟩ := Option.map_eq_some_iff.1 hp
          exact ⟨m, by omega, hc, q, hq, hpq.symm, fun r' hr' h => hno r' hr' h⟩
        · rcases Nat.lt_succ_iff_lt_or_eq.1 hr with h | h
          · exact hno r h hcr
          · subst h; simpa using hn
      · rw [fsN_no h0 hc]
        refine ⟨fun p hp => (by cases hp), fun _ r hr hcr => ?_⟩
        rcases Nat.lt_succ_iff_lt_or_eq.1 hr with h | h
        · exact hno r h hcr
        · subst h; exact absurd hcr hc
theorem fnd_spec {t : Tt} {is : Cn → Bool} : ∀ n s, (∀ p, fnd t is n s = some p → p.length = n ∧ pth t s p ∧ is (rnS s p).n = true ∧ ∀ q, q.length = n → pth t s q → is (rnS s q).n = true → lx p q) ∧ (fnd t is n s = none → ∀ q, q.length = n → pth t s q → ¬ is (rnS s q).n = true)
  | 0, s => by
    have hf : fnd t is 0 s = if is s.n = true then some [] else none := by unfold fnd; rfl
    rw [hf]
    by_cases c : is s.n = true
    · rw [if_pos c]
      refine ⟨fun p hp => ?_, fun h => by cases h⟩
      cases hp
      exact ⟨rfl, trivial, c, fun q _ _ _ => trivial⟩
    · rw [if_neg c]
      refine ⟨fun p hp => (by cases hp), fun _ q hq _ => ?_⟩
      rw [List.length_eq_zero_iff.1 hq]; exact c
  | n + 1, s => by
    have ih := fun u => fnd_spec (t := t) (is := is) n u
    obtain ⟨j1, j2⟩ := fsN_spec (t := t) (f := fnd t is n) (s := s) t.groups.length
    rw [fnd_succ]
    cases h0 : fsN t (fnd t is n) s t.groups.length with
    | some p0 =>
      dsimp only
      obtain ⟨r, hr, hc, q0, hq0, hp0, hfirst⟩ := j1 p0 h0
      obtain ⟨a1, a2, a3, a4⟩ := (ih (nxS s (r : Int))).1 q0 hq0
      refine ⟨fun p hp => ?_, fun h => by cases h⟩
      cases hp
      subst hp0
      refine ⟨by simp [a1], ⟨.inr ⟨r, rfl, hr, hc⟩, a2⟩, a3, fun q hl hq hi => ?_⟩
      match q, hl, hq, hi with
      | b :: q, hl, hq, hi =>
        unfold lx
        by_cases e : (r : Int) = b
        · rw [if_pos e]; subst e
          exact a4 q (by simpa using hl) hq.2 hi
        · rw [if_neg e]
          rcases hq.1 with h | ⟨r', h, hr', hc'⟩
          · exact .inl (by omega)
          · refine .inr ⟨by omega, ?_⟩
            subst h
            rcases Nat.lt_or_ge r' r with h | h
            · exact absurd hi ((ih (nxS s (r' : Int))).2 (hfirst r' h hc') q (by simpa using hl) hq.2)
            · omega
    | none =>
      dsimp only
      have hno := j2 h0
      refine ⟨fun p hp => ?_, fun hn q hl hq => ?_⟩
      · obtain ⟨q0, hq0, rfl⟩ := Option.map_eq_some_iff.1 hp
        obtain ⟨a1, a2, a3, a4⟩ := (ih (nxS s (-1))).1 q0 hq0
        refine ⟨by simp [a1], ⟨.inl rfl, a2⟩, a3, fun q hl hq hi => ?_⟩
        match q, hl, hq, hi with
        | b :: q, hl, hq, hi =>
          rcases hq.1 with h | ⟨r', h, hr', hc'⟩
          · subst h; exact lx_cons (a4 q (by simpa using hl) hq.2 hi)
          · subst h
            exact absurd hi ((ih (nxS s (r' : Int))).2 (hno r' hr' hc') q (by simpa using hl) hq.2)
      · match q, hl, hq with
        | b :: q, hl, hq =>
          rcases hq.1 with h | ⟨r', h, hr', hc'⟩
          · subst h
            have hn' : fnd t is n (nxS s (-1)) = none := by simpa using hn
            exact (ih (nxS s (-1))).2 hn' q (by simpa using hl) hq.2
          · subst h
            exact (ih (nxS s (r' : Int))).2 (hno r' hr' hc') q (by simpa using hl) hq.2
theorem cmpC_self {t : Tt} {a : Cn} : cmpC t a a = 0 := by have := cmpC_neg (t := t) (a := a) (b := a); omega
theorem rep_pth {t : Tt} : ∀ n (s : Sd), pth t s (List.replicate n (-1)) ∧ (rnS s (List.replicate n (-1))).n = s.n
  | 0, s => ⟨trivial, rfl⟩
  | n + 1, s => by
    obtain ⟨h1, h2⟩ := rep_pth (t := t) n (nxS s (-1))
    rw [List.replicate_succ]
    exact ⟨⟨.inl rfl, h1⟩, h2.trans rfl⟩
theorem fairI_C {t : Tt} (h5 : t.groups.length ≤ 5) {p q : List Int} : cmpC t (cnP p p.length) (cnP q q.length) = fairI t p q := by
  unfold cmpC fairI; rw [hcL_has h5, hcL_has h5]
theorem fr_law {t : Tt} (ht : ttOk t = true) : ∃ p, frR t = (p, 0) ∧ goP t p ∧ ∀ q, goP t q → fairI t q p ≤ 0 ∧ (fairI t q p = 0 → lx p q) := by
  have hbig := tt_hours ht
  have h5 := hbig.2.1
  obtain ⟨b, hb⟩ : ∃ b, b = bst t (stL t t.hours.length) := ⟨_, rfl⟩
  obtain ⟨f1, f2, f3⟩ := fold_le (t := t) (stL t t.hours.length) zC
  have hex : ∃ q : List Int, q.length = t.hours.length ∧ pth t bgS q ∧ isF t b (rnS bgS q).n = true := by
    rcases f3 with h | ⟨s, hs, h⟩
    · refine ⟨List.replicate t.hours.length (-1), by simp, (rep_pth _ _).1, ?_⟩
      have : b = zC := hb.trans h
      rw [(rep_pth (t := t) _ _).2, this]
      exact decide_eq_true (cmpC_self (t := t))
    · obtain ⟨q, q1, q2, q3⟩ := stR_pth _ _ ((mem_stL _ _).1 hs)
      refine ⟨q, q1, q2, ?_⟩
      rw [q3, show b = s.n from hb.trans h]
      exact decide_eq_true cmpC_self
  have hfr : frR t = ((fnd t (isF t b) t.hours.length bgS).getD [], 0) := by unfold frR; rw [if_pos ht, ← hb]
  obtain ⟨s1, s2⟩ := fnd_spec (t := t) (is := isF t b) t.hours.length bgS
  cases hfd : fnd t (isF t b) t.hours.length bgS with
  | none =>
    obtain ⟨q, q1, q2, q3⟩ := hex
    exact absurd q3 (s2 hfd q q1 q2)
  | some p =>
    obtain ⟨p1, p2, p3, p4⟩ := s1 p hfd
    have hok := pth_okF h5 p1 p2
    have hrun : ∀ q, okF t q → pth t bgS q ∧ rnS bgS q = sdP q q.length := fun q hq => by
      have := okF_pth h5 hq q.length 0 (by omega)
      rwa [sdP_zero, List.drop_zero] at this
    have hpb : cmpC t (cnP p p.length) b = 0 := by
      rw [(hrun p hok).2] at p3
      exact of_decide_eq_true p3
    refine ⟨p, by rw [hfr, hfd]; rfl, (go_okF ht).2 hok, fun q hq => ?_⟩
    have hqk := (go_okF ht).1 hq
    have hqs := okF_stR h5 hqk q.length (Nat.le_refl _)
    rw [hqk.1] at hqs
    have hle := f2 _ ((mem_stL _ _).2 hqs)
    rw [← fairI_C h5, cmpC_z hpb]
    have hle' : cmpC t (cnP q q.length) b ≤ 0 := by
      rw [hb, hqk.1]; exact hle
    refine ⟨hle', fun he => p4 q hqk.1 (hrun q hqk).1 ?_⟩
    rw [(hrun q hqk).2]
    exact decide_eq_true he
end Go.Proofs.Ytofbbkacihnjdaa
