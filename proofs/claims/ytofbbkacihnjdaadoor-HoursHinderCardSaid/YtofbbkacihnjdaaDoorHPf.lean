/- A part of the proof that the last text ends: what functions of the program do, told by plain data. -/
import Derived.Test.YtofbbkacihnjdaaDoorHPd
import Derived.Test.YtofbbkacihnjdaaDoorHW
set_option linter.unusedVariables false
set_option linter.unusedSimpArgs false
namespace Go.Proofs.YtofbbkacihnjdaaDoor
open Go Go.E Go.Maps
set_option maxRecDepth 100000
set_option maxHeartbeats 4000000
theorem lw_srt : ∀ x, x < 32 → ∀ i, i < 5 → i < (lw x).length → 0 < i → (lw x).getD (i - 1) default < (lw x).getD i default := by decide +kernel
theorem lw_in : ∀ n : Nat, n < 6 → ∀ x, x < 2 ^ n → ∀ k ∈ lw x, 0 ≤ k ∧ k < (n : Int) := by decide +kernel
theorem lw_del : ∀ x, x < 32 → ∀ i, i < 5 → i < (lw x).length → lw (x - 2 ^ ((lw x).getD i default).toNat) = (lw x).eraseIdx i := by decide +kernel
theorem lw_all : ∀ n, n < 6 → lw (2 ^ n - 1) = (List.range n).map Int.ofNat := by decide +kernel
def lackP (t : Tt) (p : List Int) (l : List Int) : Prop := ∀ s, stR t t.hours.length s → ¬ ∀ k ∈ l, p.getD k.toNat default ≤ s.n.at k
theorem lack_iff {t : Tt} {p : List Int} {x : Nat} : lackB t p x = true ↔ lackP t p (lw x) := by
  unfold lackB lackP
  rw [Bool.not_eq_true', Bool.eq_false_iff]
  constructor
  · intro h s hs ha
    exact h (List.any_eq_true.2 ⟨s, (mem_stL _ _).2 hs, List.all_eq_true.2 fun k hk => decide_eq_true (ha k hk)⟩)
  · intro h ha
    obtain ⟨s, hs, h2⟩ := List.any_eq_true.1 ha
    exact h s ((mem_stL _ _).1 hs) fun k hk => of_decide_eq_true (List.all_eq_true.1 h2 k hk)
theorem st_ex {t : Tt} : ∀ k, ∃ s, stR t k s
  | 0 => ⟨bgS, rfl⟩
  | k + 1 => by
    obtain ⟨s, h⟩ := st_ex (t := t) k
    exact ⟨nxS s (-1), s, h, .inl rfl⟩
theorem lack_ne {t : Tt} {p : List Int} {x : Nat} (h : lackB t p x = true) : lw x ≠ [] := fun e => by
  have h1 := lack_iff.1 h
  rw [e] at h1
  obtain ⟨s, hs⟩ := st_ex (t := t) t.hours.length
  exact h1 s hs fun k hk => by cases hk
theorem cmpL_tr {x y z : List Int} (h1 : x.length = y.length) (h2 : cmpL x y ≤ 0) (h3 : cmpL y z ≤ 0) : cmpL x z ≤ 0 := by
  unfold cmpL at *
  rw [h1] at h2 ⊢
  exact cmpN_tr _ _ h2 h3
theorem cmpL_self {x : List Int} : cmpL x x = 0 := by have := cmpL_neg (x := x) (y := x) rfl; omega
theorem hs_spec {t : Tt} {p : List Int} : ∀ X, (hsN t p X = [] → ∀ x, x < X → ¬ lackB t p x = true) ∧ (hsN t p X ≠ [] → ∃ x, x < X ∧ lackB t p x = true ∧ hsN t p X = lw x ∧ ∀ y, y < X → lackB t p y = true → (lw x).length ≤ (lw y).length ∧ ((lw x).length = (lw y).length → cmpL (lw x) (lw y) ≤ 0))
  | 0 => ⟨fun _ x hx => by omega, fun h => absurd rfl h⟩
  | X + 1 => by
    obtain ⟨i1, i2⟩ := hs_spec (t := t) (p := p) X
    by_cases c : lackB t p X = true
    case neg =>
      rw [hs_no c]
      refine ⟨fun h x hx => ?_, fun h => ?_⟩
      · rcases Nat.lt_succ_iff_lt_or_eq.1 hx with h' | h'
        · exact i1 h x h'
        · rw [h']; exact c
      · obtain ⟨x, h1, h2, h3, h4⟩ := i2 h
        refine ⟨x, by omega, h2, h3, fun y hy hl => ?_⟩
        rcases Nat.lt_succ_iff_lt_or_eq.1 hy with h' | h'
        · exact h4 y h' hl
        · rw [h'] at hl; exact absurd hl c
    have hne := lack_ne c
    rw [hs_yes c]
    obtain ⟨b, hb⟩ : ∃ b, hsN t p X = b := ⟨_, rfl⟩
    rw [hb] at i1 i2 ⊢
    by_cases h0 : b = []
    · rw [hsS_yes (.inl (by rw [h0]; rfl))]
      refine ⟨fun h => absurd h hne, fun _ => ⟨X, by omega, c, rfl, fun y hy hl => ?_⟩⟩
      rcases Nat.lt_succ_iff_lt_or_eq.1 hy with h' | h'
      · exact absurd hl (i1 h0 y h')
      · rw [h']; exact ⟨Nat.le_refl _, fun _ => by rw [cmpL_self]; exact Int.le_refl _⟩
    · obtain ⟨x, h1, h2, h3, h4⟩ := i2 h0
      have hb0 : ¬ b.length = 0 := fun h => h0 (List.length_eq_zero_iff.1 h)
      by_cases hl : (lw X).length < b.length ∨ ((lw X).length = b.length ∧ cmpL (lw X) b < 0)
      · rw [hsS_yes (.inr hl)]
        refine ⟨fun h => absurd h hne, fun _ => ⟨X, by omega, c, rfl, fun y hy hy2 => ?_⟩⟩
        rcases Nat.lt_succ_iff_lt_or_eq.1 hy with h' | h'
        · obtain ⟨k1, k2⟩ := h4 y h' hy2
          rw [← h3] at k1 k2
          refine ⟨by omega, fun e => ?_⟩
          have e1 : (lw X).length = b.length := by omega
          exact cmpL_tr e1 (by omega) (k2 (by omega))
        · rw [h']; exact ⟨Nat.le_refl _, fun _ => by rw [cmpL_self]; exact Int.le_refl _⟩
      · rw [hsS_no (fun h => h.elim hb0 hl)]
        refine ⟨fun h => absurd h h0, fun _ => ⟨x, by omega, h2, h3, fun y hy hy2 => ?_⟩⟩
        rcases Nat.lt_succ_iff_lt_or_eq.1 hy with h' | h'
        · exact h4 y h' hy2
        · rw [h', ← h3]
          refine ⟨by omega, fun e => ?_⟩
          have := cmpL_neg (x := lw X) (y := b) e.symm
          omega
def fewN (p H : List Int) (i : Nat) : Nat → List Int
  | 0 => List.replicate p.length 0
  | m + 1 => if m = i then fewN p H i m else (fewN p H i m).set (H.getD m default).toNat (p.getD (H.getD m default).toNat default)
theorem few_len {p H : List Int} {i : Nat} : ∀ m, (fewN p H i m).length = p.length
  | 0 => by simp [fewN]
  | m + 1 => by
    unfold fewN
    split
    · exact few_len m
    · rw [List.length_set]; exact few_len m
theorem few_at {p H : List Int} {i g : Nat} (hg : g < p.length) : ∀ m, (fewN p H i m).getD g default = 0 ∨ ((fewN p H i m).getD g default = p.getD g default ∧ ∃ k, k < m ∧ k ≠ i ∧ (H.getD k default).toNat = g)
  | 0 => .inl (by unfold fewN; rw [at_lt (by simpa using hg)]; simp)
  | m + 1 => by
    have ih := few_at (H := H) (i := i) hg m
    have hup : (fewN p H i m).getD g default = 0 ∨ ((fewN p H i m).getD g default = p.getD g default ∧ ∃ k, k < m + 1 ∧ k ≠ i ∧ (H.getD k default).toNat = g) := ih.imp id fun ⟨h1, k, h2, h3⟩ => ⟨h1, k, by omega, h3⟩
    unfold fewN
    split
    · exact hup
    · rename_i c
      by_cases e : (H.getD m default).toNat = g
      · refine .inr ⟨?_, m, by omega, c, e⟩
        rw [e, at_lt (by rw [List.length_set, few_len]; exact hg), List.getElem_set_self]
      · have : ((fewN p H i m).set (H.getD m default).toNat (p.getD (H.getD m default).toNat default)).getD g default = (fewN p H i m).getD g default := by
          rw [at_lt (by rw [List.length_set, few_len]; exact hg), List.getElem_set_ne e, ← at_lt (by rw [few_len]; exact hg)]
        rw [this]; exact hup
theorem at_pos {k : Nat} {s : Sd} (h : StB k s) {g : Int} : 0 ≤ s.n.at g := by
  obtain ⟨_, _, h1, h2, h3, h4, h5⟩ := h
  unfold Cn.at
  repeat' split
  all_goals omega
theorem mem_erase {H : List Int} {i k : Nat} (hk : k < H.length) (hki : k ≠ i) : H.getD k default ∈ H.eraseIdx i := by
  rw [at_lt hk, List.mem_eraseIdx_iff_getElem]
  exact ⟨k, hk, hki, rfl⟩
theorem hi_law {t : Tt} {p : List Int} (ht : ttOk t = true) (hl : (p.length : Int) = t.groups.length) (hb : (p.all fun x => inB x 0 12) = true) {H : List Int} (hH : hsN t p (2 ^ t.groups.length) = H) :
    hiR t p = (H, 0) ∧ (∀ i, i < H.length → (0 ≤ H.getD i default ∧ H.getD i default < t.groups.length) ∧ (0 < i → H.getD (i - 1) default < H.getD i default)) ∧
    (H ≠ [] → ∀ q, goP t q → ∃ i, i < H.length ∧ (cnG q q.length (H.getD i default) : Int) < p.getD (H.getD i default).toNat default) ∧
    (∀ i, i < H.length → hiR t (fewN p H i H.length) = ([], 0)) ∧
    (H = [] → ∃ q, goP t q ∧ ∀ g, g < t.groups.length → p.getD g default ≤ (cnG q q.length (g : Int) : Int)) := by
  have hbig := tt_hours ht
  have h5 := hbig.2.1
  have hX : 2 ^ t.groups.length ≤ 2 ^ 5 := Nat.pow_le_pow_right (by decide) h5
  obtain ⟨s1, s2⟩ := hs_spec (t := t) (p := p) (2 ^ t.groups.length)
  rw [hH] at s1 s2
  have hr : hiR t p = (H, 0) := by unfold hiR; rw [if_pos ht, if_pos ⟨hl, hb⟩, hH]
  have toPlan : ∀ s, stR t t.hours.length s → ∃ q, goP t q ∧ sdP q q.length = s := fun s hs => by
    obtain ⟨q, q1, q2, q3⟩ := stR_pth _ _ hs
    have hok := pth_okF h5 q1 q2
    have := okF_pth h5 hok q.length 0 (by omega)
    rw [sdP_zero, List.drop_zero] at this
    exact ⟨q, (go_okF ht).2 hok, by rw [← this.2, q3]⟩
  have ofPlan : ∀ q, goP t q → stR t t.hours.length (sdP q q.length) := fun q hq => by
    have hk := (go_okF ht).1 hq
    have := okF_stR h5 hk q.length (Nat.le_refl _)
    rwa [hk.1] at this ⊢
  refine ⟨hr, fun i hi => ?_, fun h0 q hq => ?_, fun i hi => ?_, fun h0 => ?_⟩
  · obtain ⟨x, x1, x2, x3, _⟩ := s2 (fun e => by rw [e] at hi; simp at hi)
    have hlen := (lw_len x (by omega)).1
    rw [← x3] at hlen
    have hin := lw_in t.groups.length (by omega) x x1 (H.getD i default) (by rw [← x3, at_lt hi]; exact List.getElem_mem _)
    exact ⟨hin, fun h => by
      have := lw_srt x (by omega) i (by omega) (by rw [← x3]; exact hi) h
      rwa [← x3] at this⟩
  · obtain ⟨x, x1, x2, x3, _⟩ := s2 h0
    have hlk := lack_iff.1 x2
    rw [← x3] at hlk
    have hn := hlk _ (ofPlan q hq)
    refine Classical.byContradiction fun hc => hn fun k hk => ?_
    obtain ⟨i, hi, e⟩ := List.getElem_of_mem hk
    have hin := lw_in t.groups.length (by omega) x x1 k (by rw [← x3]; exact hk)
    have h2 : ¬ (cnG q q.length (H.getD i default) : Int) < p.getD (H.getD i default).toNat default := fun h => hc ⟨i, hi, h⟩
    rw [at_lt hi, e] at h2
    have h3 := cnP_at (p := q) (k := q.length) (g := k.toNat) (by omega)
    rw [show ((k.toNat : Nat) : Int) = k by omega] at h3
    show p.getD k.toNat default ≤ (cnP q q.length).at k
    rw [h3]; omega
  · obtain ⟨x, x1, x2, x3, x4⟩ := s2 (fun e => by rw [e] at hi; simp at hi)
    have hlen := (lw_len x (by omega)).1
    rw [← x3] at hlen
    have hdel := lw_del x (by omega) i (by omega) (by rw [← x3]; exact hi)
    rw [← x3] at hdel
    obtain ⟨z, hz⟩ : ∃ z, x - 2 ^ (H.getD i default).toNat = z := ⟨_, rfl⟩
    rw [hz] at hdel
    have hzx : z ≤ x := hz ▸ Nat.sub_le _ _
    have hzn : ¬ lackB t p z = true := fun h => by
      have := (x4 z (by omega) h).1
      rw [hdel, ← x3, List.length_eraseIdx, if_pos hi] at this
      omega
    have hst : ∃ s, stR t t.hours.length s ∧ ∀ k ∈ H.eraseIdx i, p.getD k.toNat default ≤ s.n.at k := by
      refine Classical.byContradiction fun hc => hzn (lack_iff.2 fun s hs ha => hc ⟨s, hs, ?_⟩)
      rwa [hdel] at ha
    obtain ⟨s, hs, ha⟩ := hst
    have hsB := stR_b h5 _ _ hs
    have hfl : (fewN p H i H.length).length = p.length := few_len _
    have hfb : ((fewN p H i H.length).all fun x => inB x 0 12) = true := by
      refine all_get.2 fun g hg => ?_
      rw [hfl] at hg
      rcases few_at (H := H) (i := i) hg H.length with h | ⟨h, _⟩
      · rw [h]; decide
      · rw [h]; exact all_get.1 hb g hg
    have hno : ∀ y, y < 2 ^ t.groups.length → ¬ lackB t (fewN p H i H.length) y = true := fun y hy h => by
      refine lack_iff.1 h s hs fun k hk => ?_
      have hin := lw_in t.groups.length (by omega) y hy k hk
      rcases few_at (p := p) (H := H) (i := i) (g := k.toNat) (by omega) H.length with h | ⟨h, m, m1, m2, m3⟩
      · rw [h]; exact at_pos hsB
      · rw [h]
        have hHm := lw_in t.groups.length (by omega) x x1 (H.getD m default) (by rw [← x3, at_lt m1]; exact List.getElem_mem _)
        have := ha (H.getD m default) (mem_erase m1 m2)
        rwa [show H.getD m default = k by omega] at this
    obtain ⟨f1, f2⟩ := hs_spec (t := t) (p := fewN p H i H.length) (2 ^ t.groups.length)
    have hnil : hsN t (fewN p H i H.length) (2 ^ t.groups.length) = [] := Classical.byContradiction fun h => by
      obtain ⟨y, y1, y2, _⟩ := f2 h
      exact hno y y1 y2
    unfold hiR
    rw [if_pos ht, if_pos ⟨by rw [hfl]; exact hl, hfb⟩, hnil]
  · have hpos : 0 < 2 ^ t.groups.length := Nat.pow_pos (by decide)
    have hnl := s1 h0 (2 ^ t.groups.length - 1) (by omega)
    have hst : ∃ s, stR t t.hours.length s ∧ ∀ k ∈ (List.range t.groups.length).map Int.ofNat, p.getD k.toNat default ≤ s.n.at k := by
      refine Classical.byContradiction fun hc => hnl (lack_iff.2 fun s hs ha => hc ⟨s, hs, ?_⟩)
      rwa [lw_all t.groups.length (by omega)] at ha
    obtain ⟨s, hs, ha⟩ := hst
    obtain ⟨q, hq, hqs⟩ := toPlan s hs
    refine ⟨q, hq, fun g hg => ?_⟩
    have := ha (g : Int) (List.mem_map.2 ⟨g, List.mem_range.2 hg, rfl⟩)
    rw [Int.toNat_natCast, ← hqs] at this
    have h3 := cnP_at (p := q) (k := q.length) (g := g) (by omega)
    rw [← h3]
    exact this
theorem hi_fair {t : Tt} {p : List Int} (ht : ttOk t = true) {q : List Int} (hq : goP t q) (hc : ∀ g, g < t.groups.length → p.getD 0 default ≤ (cnG q q.length (g : Int) : Int)) (hk : ∀ g, g < t.groups.length → (t.groups.getD g default).cred = (t.groups.getD 0 default).cred) {u : List Int} (hu : frR t = (u, 0)) {g : Nat} (hg : g < t.groups.length) : p.getD 0 default ≤ (cnG u u.length (g : Int) : Int) := by
  obtain ⟨u', h1, h2, h3⟩ := fr_law ht
  obtain rfl : u' = u := by rw [hu] at h1; cases h1; rfl
  have hf := (h3 q hq).1
  unfold fairI cmpL at hf
  have l1 : (isort (hasL t q)).length = t.groups.length := by rw [isort_len, hasL_len]
  have l2 : (isort (hasL t u')).length = t.groups.length := by rw [isort_len, hasL_len]
  rw [l1] at hf
  have hfst : (isort (hasL t q)).getD 0 default ≤ (isort (hasL t u')).getD 0 default := by
    obtain ⟨n, hn⟩ : ∃ n, t.groups.length = n + 1 := ⟨t.groups.length - 1, by omega⟩
    rw [hn, cmpN] at hf
    split at hf
    · omega
    · omega
  have hq0 : p.getD 0 default + (t.groups.getD 0 default).cred ≤ (isort (hasL t q)).getD 0 default := by
    rw [at_lt (l := isort (hasL t q)) (i := 0) (by omega)]
    have hm : (isort (hasL t q))[0]'(by omega) ∈ hasL t q := (isort_perm.mem_iff).1 (List.getElem_mem _)
    obtain ⟨j, hj, e⟩ := List.getElem_of_mem hm
    rw [← e, ← at_lt hj]
    rw [hasL_len] at hj
    unfold hasL
    rw [hasN_at hj, if_pos hj, hk j hj]
    have := hc j hj
    omega
  have hu0 : (isort (hasL t u')).getD 0 default ≤ (hasL t u').getD g default := by
    have hm : (hasL t u').getD g default ∈ isort (hasL t u') := (isort_perm.mem_iff).2 (by rw [at_lt (by rw [hasL_len]; exact hg)]; exact List.getElem_mem _)
    obtain ⟨j, hj, e⟩ := List.getElem_of_mem hm
    rw [← e, at_lt (l := isort (hasL t u')) (i := 0) (by omega)]
    rcases Nat.eq_zero_or_pos j with h | h
    · subst h; exact Int.le_refl _
    · exact List.pairwise_iff_getElem.1 (isort_srt (l := hasL t u')) 0 j (by omega) hj h
  have hug : (hasL t u').getD g default = (cnG u' u'.length (g : Int) : Int) + (t.groups.getD 0 default).cred := by
    unfold hasL
    rw [hasN_at hg, if_pos hg, hk g hg]
  omega
end Go.Proofs.YtofbbkacihnjdaaDoor
