/- A part of the proof that the last text ends: what functions of the program do, told by plain data. -/
import Derived.Test.YtmkigohedfcomaaGJ
import Derived.Test.YtmkigohedfcomaaK1
set_option linter.unusedVariables false
set_option linter.unusedSimpArgs false
namespace Go.Proofs.Ytmkigohedfcomaa
open Go Go.E

/-! ### Events left out -/
theorem one_err {s : Shop} {l : List Pair} {x : Ev} : (one s l x).2 ≠ 3 ∧ (one s l x).2 ≠ 1 := by
  unfold one
  simp only
  repeat' split
  all_goals simp
theorem stepE_err {s : Shop} {l : List Ev} {i : Nat} {out : List Pair} : (stepE s l i out).2 ≠ 3 := by
  unfold stepE
  simp only
  split
  · simp
  · split
    · simp
    · unfold doS
      split
      · split <;> simp
      · split
        · simp
        · split
          · simp
          · exact one_err.1
theorem go_idx {s : Shop} {l : List Ev} : ∀ k i out, i + k = l.length → ((i : Int) ≤ (go s l k i out).2.1 ∧ (go s l k i out).2.1 ≤ l.length) ∧ ((go s l k i out).2.2 = 0 ↔ (go s l k i out).2.1 = l.length) ∧ (go s l k i out).2.2 ≠ 3
  | 0, i, out, h => by
    have : i = l.length := by omega
    subst this
    unfold go
    exact ⟨⟨Int.le_refl _, Int.le_refl _⟩, ⟨fun _ => rfl, fun _ => rfl⟩, by simp⟩
  | k + 1, i, out, h => by
    unfold go
    split
    · have := go_idx (s := s) (l := l) k (i + 1) (stepE s l i out).1 (by omega)
      exact ⟨⟨by have := this.1.1; omega, this.1.2⟩, this.2⟩
    · rename_i hs
      exact ⟨⟨Int.le_refl _, by simp only; omega⟩, ⟨fun e => absurd e hs, fun e => by simp only at e; omega⟩, stepE_err⟩
theorem stepE_take {s : Shop} {l : List Ev} {i k : Nat} {out : List Pair} (h : i < k) (hk : k ≤ l.length) : stepE s (l.take k) i out = stepE s l i out := by
  have h1 : (l.take k).getD i default = l.getD i default := by rw [List.getD, List.getD, List.getElem?_take_of_lt h]
  have h2 : (l.take k).getD (i - 1) default = l.getD (i - 1) default := by rw [List.getD, List.getD, List.getElem?_take_of_lt (show i - 1 < k by omega)]
  unfold stepE
  rw [h1, h2]
theorem go_take {s : Shop} {l : List Ev} {k : Nat} (hk : k ≤ l.length) : ∀ m i out, i + m = k → (k : Int) ≤ (go s l (l.length - i) i out).2.1 → (go s (l.take k) m i out).2.1 = k ∧ (go s (l.take k) m i out).2.2 = 0
  | 0, i, out, h, _ => by
    have : i = k := by omega
    subst this
    unfold go; exact ⟨rfl, rfl⟩
  | m + 1, i, out, h, hn => by
    rw [show l.length - i = (l.length - (i + 1)) + 1 by omega] at hn
    unfold go at hn ⊢
    rw [stepE_take (by omega) hk]
    split at hn
    · rename_i hs
      rw [if_pos hs]
      exact go_take hk m (i + 1) _ (by omega) hn
    · simp only at hn; omega
theorem play_idx {s : Shop} {l : List Ev} (hs : s.ok = true) (hl : l.length ≤ 256) : (0 ≤ (play s l).2.1 ∧ (play s l).2.1 ≤ l.length) ∧ ((play s l).2.2 = 0 ↔ (play s l).2.1 = l.length) ∧ (play s l).2.2 ≠ 3 := by
  unfold play
  rw [if_neg (by simp [hs]), if_neg (by omega)]
  have := go_idx (s := s) (l := l) l.length 0 [] (by omega)
  exact ⟨⟨this.1.1, this.1.2⟩, this.2⟩
theorem play_take {s : Shop} {l : List Ev} {k : Nat} (hs : s.ok = true) (hl : l.length ≤ 256) (hk : (k : Int) ≤ (play s l).2.1) : (play s (l.take k)).2.1 = k ∧ (play s (l.take k)).2.2 = 0 := by
  have hi := (play_idx hs hl).1.2
  have hkl : k ≤ l.length := by omega
  have hlt : (l.take k).length = k := by rw [List.length_take]; omega
  unfold play at hk ⊢
  rw [if_neg (by simp [hs]), if_neg (by omega)] at hk
  rw [if_neg (by simp [hs]), if_neg (by rw [hlt]; omega), hlt]
  exact go_take hkl k 0 [] (by omega) hk
/-- The same, event by event. -/
def goL (s : Shop) : Option Int → List Pair → List Ev → Option (List Pair)
  | _, out, [] => some out
  | pt, out, x :: xs => if x.ok = true ∧ (∀ t, pt = some t → t ≤ x.time) ∧ (doS s out x).2 = 0 then goL s (some x.time) (doS s out x).1 xs else none
theorem go_goL {s : Shop} {l : List Ev} : ∀ k i out, i + k = l.length → (go s l k i out).2.2 = 0 → goL s (if i = 0 then none else some (l.getD (i - 1) default).time) out (l.drop i) = some (go s l k i out).1
  | 0, i, out, h, _ => by
    rw [List.drop_eq_nil_of_le (by omega)]; rfl
  | k + 1, i, out, h, h0 => by
    have hd : l.drop i = l.getD i default :: l.drop (i + 1) := by rw [List.drop_eq_getElem_cons (by omega), List.getD, List.getElem?_eq_getElem (by omega)]; rfl
    rw [hd]
    unfold go at h0 ⊢
    split at h0
    · rename_i hs
      rw [if_pos hs]
      have ih := go_goL (s := s) k (i + 1) _ (by omega) h0
      rw [if_neg (by omega), Nat.add_sub_cancel] at ih
      generalize hst : (stepE s l i out).1 = o at *
      unfold stepE at hs hst
      simp only at hs hst
      split at hs
      · cases hs
      · rename_i hok
        rw [if_neg hok] at hst
        split at hs
        · cases hs
        · rename_i ht
          rw [if_neg ht] at hst
          unfold goL
          rw [if_pos ⟨by simpa using hok, fun t hpt => by
            split at hpt
            · cases hpt
            · cases hpt; omega, hs⟩, hst]
          exact ih
    · rename_i hs; exact absurd h0 hs
theorem goL_go {s : Shop} {l : List Ev} : ∀ k i out r, i + k = l.length → goL s (if i = 0 then none else some (l.getD (i - 1) default).time) out (l.drop i) = some r → go s l k i out = (r, (l.length : Int), 0)
  | 0, i, out, r, h, hg => by
    rw [List.drop_eq_nil_of_le (by omega)] at hg
    unfold goL at hg
    cases hg
    unfold go
    rw [show i = l.length by omega]
  | k + 1, i, out, r, h, hg => by
    have hd : l.drop i = l.getD i default :: l.drop (i + 1) := by rw [List.drop_eq_getElem_cons (by omega), List.getD, List.getElem?_eq_getElem (by omega)]; rfl
    rw [hd] at hg
    generalize hpt : (if i = 0 then none else some (l.getD (i - 1) default).time) = pt at hg
    unfold goL at hg
    split at hg
    · rename_i hc
      have hst : stepE s l i out = doS s out (l.getD i default) := by
        unfold stepE
        simp only
        rw [if_neg (by rw [hc.1]; simp), if_neg]
        rintro ⟨h1, h2⟩
        have := hc.2.1 (l.getD (i - 1) default).time (by rw [← hpt, if_neg (by omega)])
        omega
      unfold go
      rw [hst, if_pos hc.2.2]
      exact goL_go k (i + 1) _ r (by omega) (by rw [if_neg (by omega), Nat.add_sub_cancel]; exact hg)
    · cases hg
theorem play_goL {s : Shop} {l : List Ev} (h : (play s l).2.2 = 0) : s.ok = true ∧ l.length ≤ 256 ∧ goL s none [] l = some (play s l).1 := by
  unfold play at h ⊢
  split at h
  · cases h
  · rename_i h1; rw [if_neg h1]
    split at h
    · cases h
    · rename_i h2; rw [if_neg h2]
      exact ⟨by simpa using h1, by omega, by have := go_goL l.length 0 [] (by omega) h; rwa [if_pos rfl, List.drop_zero] at this⟩
theorem goL_play {s : Shop} {l : List Ev} {r : List Pair} (hs : s.ok = true) (hl : l.length ≤ 256) (h : goL s none [] l = some r) : play s l = (r, (l.length : Int), 0) := by
  unfold play
  rw [if_neg (by simp [hs]), if_neg (by omega)]
  exact goL_go l.length 0 [] r (by omega) (by rw [if_pos rfl, List.drop_zero]; exact h)
/-- What happens to other pairs makes no difference. -/
structure Sim (p : Nat) (out out' : List Pair) : Prop where
  len : out'.length = out.length
  at' : p < out.length → out'.getD p default = out.getD p default
  other : ∀ q, q ≠ p → q < out.length → (out'.getD q default).who = -1
def keep (p : Nat) (x : Ev) : Bool := decide (x.kind = 0) || decide (x.pair = p)
theorem getD_set {l : List Pair} {i j : Nat} {x : Pair} : (l.set i x).getD j default = if i = j ∧ i < l.length then x else l.getD j default := by
  rw [List.getD, List.getElem?_set, List.getD]
  by_cases h : i = j
  · subst h
    by_cases h2 : i < l.length
    · simp [h2]
    · simp [h2]
  · simp [h]
theorem getD_snoc {l : List Pair} {x : Pair} {j : Nat} : (l ++ [x]).getD j default = if j = l.length then x else l.getD j default := by
  rw [List.getD, List.getD]
  by_cases h : j < l.length
  · rw [List.getElem?_append_left h, if_neg (by omega)]
  · rw [List.getElem?_append_right (by omega)]
    by_cases h2 : j = l.length
    · subst h2; simp
    · rw [if_neg h2, List.getElem?_eq_none (l := l) (by omega), List.getElem?_eq_none (by simp; omega)]
theorem sim_has {p : Nat} {out out' : List Pair} (h : Sim p out out') {n : Int} (hn : 0 ≤ n) (ho : has out n = false) : has out' n = false := by
  unfold has at ho ⊢
  rw [List.any_eq_false] at ho ⊢
  intro x hx
  obtain ⟨q, hq, rfl⟩ := List.getElem_of_mem hx
  have hq2 : q < out.length := by have := h.len; omega
  have e1 : out'.getD q default = out'[q] := by rw [List.getD, List.getElem?_eq_getElem hq]; rfl
  have e2 : out.getD q default = out[q] := by rw [List.getD, List.getElem?_eq_getElem hq2]; rfl
  by_cases hp : q = p
  · subst hp
    have := h.at' hq2
    rw [e1, e2] at this
    rw [this]
    exact ho _ (List.getElem_mem hq2)
  · have := h.other q hp hq2
    rw [e1] at this
    simp only [beq_iff_eq]
    omega
theorem sim_do {s : Shop} {p : Nat} {out out' : List Pair} {x : Ev} (h : Sim p out out') (hx : x.ok = true) (h0 : (doS s out x).2 = 0) :
    if keep p x = true then (doS s out' x).2 = 0 ∧ Sim p (doS s out x).1 (doS s out' x).1 else Sim p (doS s out x).1 out' := by
  have hb := Ev.bounds hx
  unfold doS at h0 ⊢
  by_cases hk : x.kind = 0
  · rw [if_pos hk] at h0
    rw [if_pos (show keep p x = true by simp [keep, hk]), if_pos hk, if_pos hk]
    split at h0
    · cases h0
    · rename_i hl
      rw [if_neg hl, if_neg (by rw [h.len]; exact hl)]
      refine ⟨rfl, ⟨by simp [h.len], fun hp => ?_, fun q hq hql => ?_⟩⟩
      · rw [getD_snoc, getD_snoc, h.len]
        split
        · rfl
        · rename_i hne
          simp at hp
          exact h.at' (by omega)
      · rw [getD_snoc, h.len]
        split
        · rfl
        · rename_i hne
          simp at hql
          exact h.other q hq (by omega)
  · rw [if_neg hk] at h0
    rw [if_neg hk, if_neg hk]
    split at h0
    · cases h0
    · rename_i hl
      rw [if_neg hl]
      split at h0
      · rename_i h1
        rw [if_pos h1]
        by_cases hp : x.pair = p
        · have hpl : p < out.length := by omega
          have hpn : x.pair.toNat = p := by omega
          rw [if_pos (show keep p x = true by simp [keep, hp]), if_neg (by rw [h.len]; exact hl)]
          have hone : one s out' x = one s out x := by
            have e := h.at' hpl
            unfold one at h1 ⊢
            rw [hpn] at h1 ⊢
            rw [e]
            simp only at h1 ⊢
            split
            · rename_i hk1
              rw [if_pos hk1] at h1
              split
              · rfl
              · rename_i hw
                rw [if_neg hw] at h1
                have hh : has out x.n = false := by
                  cases hb2 : has out x.n with
                  | false => rfl
                  | true => rw [if_pos hb2] at h1; cases h1
                rw [hh, sim_has h hb.2.2.2.2.2.2.1 hh]
            · rfl
          rw [hone, if_pos h1]
          refine ⟨rfl, ⟨by simp [h.len], fun hq => ?_, fun q hq hql => ?_⟩⟩
          · rw [getD_set, getD_set, h.len, hpn, if_pos ⟨rfl, hpl⟩, if_pos ⟨rfl, hpl⟩]
          · rw [getD_set, hpn, if_neg (fun e => hq e.1.symm)]
            exact h.other q hq (by simpa using hql)
        · rw [if_neg (show ¬ keep p x = true by simp [keep, hk, hp])]
          have hne : ∀ q, q = p → ¬ (x.pair.toNat = q ∧ x.pair.toNat < out.length) := fun q hq e => hp (by omega)
          refine ⟨by simp [h.len], fun hq => ?_, fun q hq hql => h.other q hq (by simpa using hql)⟩
          rw [getD_set, if_neg (hne p rfl)]
          exact h.at' (by simpa using hq)
      · rename_i h1; exact absurd h0 h1
theorem sim_go {s : Shop} {p : Nat} : ∀ (l : List Ev) (pt pt' : Option Int) (out out' r : List Pair), (∀ t', pt' = some t' → ∃ t, pt = some t ∧ t' ≤ t) → Sim p out out' → goL s pt out l = some r →
    ∃ r', goL s pt' out' (l.filter (keep p)) = some r' ∧ Sim p r r'
  | [], pt, pt', out, out', r, _, h, hg => by
    unfold goL at hg; cases hg
    exact ⟨out', rfl, h⟩
  | x :: xs, pt, pt', out, out', r, ht, h, hg => by
    unfold goL at hg
    split at hg
    · rename_i hc
      have hs := sim_do h hc.1 hc.2.2
      by_cases hk : keep p x = true
      · rw [if_pos hk] at hs
        rw [List.filter_cons_of_pos hk]
        unfold goL
        rw [if_pos ⟨hc.1, fun t' ht' => by
          obtain ⟨t, e1, e2⟩ := ht t' ht'
          have := hc.2.1 t e1
          omega, hs.1⟩]
        exact sim_go xs (some x.time) (some x.time) _ _ r (fun t' e => ⟨x.time, rfl, by cases e; exact Int.le_refl _⟩) hs.2 hg
      · rw [if_neg hk] at hs
        rw [List.filter_cons_of_neg hk]
        exact sim_go xs (some x.time) pt' _ _ r (fun t' e => ⟨x.time, rfl, by
          obtain ⟨t, e1, e2⟩ := ht t' e
          have := hc.2.1 t e1
          omega⟩) hs hg
    · cases hg
theorem play_own {s : Shop} {l : List Ev} (h : (play s l).2.2 = 0) {p : Nat} (hp : p < (play s l).1.length) :
    (play s (l.filter (keep p))).2.2 = 0 ∧ (play s (l.filter (keep p))).1.length = (play s l).1.length ∧ (play s (l.filter (keep p))).1.getD p default = (play s l).1.getD p default := by
  obtain ⟨h1, h2, h3⟩ := play_goL h
  obtain ⟨r', h4, h5⟩ := sim_go (p := p) l none none [] [] _ (fun t e => by cases e) ⟨rfl, fun e => by simp at e, fun q _ e => by simp at e⟩ h3
  have hl : (l.filter (keep p)).length ≤ 256 := Nat.le_trans (List.length_filter_le _ _) h2
  rw [goL_play h1 hl h4]
  exact ⟨rfl, h5.len, h5.at' hp⟩
end Go.Proofs.Ytmkigohedfcomaa
