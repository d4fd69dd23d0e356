/- A part of the proof that the last text ends: what functions of the program do, told by plain data. -/
import Derived.Test.YtofbbkacihnjdaaDoorHPd
import Derived.Test.YtofbbkacihnjdaaDoorHW
set_option linter.unusedVariables false
set_option linter.unusedSimpArgs false
namespace Go.Proofs.YtofbbkacihnjdaaDoor
open Go Go.E Go.Maps
set_option maxRecDepth 100000
set_option maxHeartbeats 4000000
theorem lw_in : ∀ n : Nat, n < 6 → ∀ x, x < 2 ^ n → ∀ k ∈ lw x, 0 ≤ k ∧ k < (n : Int) := by decide +kernel
def lackP (t : Tt) (p : List Int) (l : List Int) : Prop := ∀ s, stR t t.hours.length s → ¬ ∀ k ∈ l, p.getD k.toNat default ≤ s.n.at k
theorem lack_iff {t : Tt} {p : List Int} {x : Nat} : lackB t p x = true ↔ lackP t p (lw x) := by
  unfold lackB lackP
  rw [Bool.not_eq_true', Bool.eq_false_iff]
  constructor
  · intro h s hs ha
    exact h (List.any_eq_true.2 ⟨s, (mem_stL _ _).2 hs, List.all_eq_true.2 fun k hk => decide_eq_true (ha k hk)⟩)
  · intro h ha
    obtain ⟨s, hs, h2⟩ := List.any_eq_true.1 ha
    exact h s ((mem_stL _ _).1 hs) fun k hk => of_decide_eq_true (List.all_eq_true.1 h2 k hk)
theorem st_ex {t : Tt} : ∀ k, ∃ s, stR t k s
  | 0 => ⟨bgS, rfl⟩
  | k + 1 => by
    obtain ⟨s, h⟩ := st_ex (t := t) k
    exact ⟨nxS s (-1), s, h, .inl rfl⟩
theorem lack_ne {t : Tt} {p : List Int} {x : Nat} (h : lackB t p x = true) : lw x ≠ [] := fun e => by
  have h1 := lack_iff.1 h
  rw [e] at h1
  obtain ⟨s, hs⟩ := st_ex (t := t) t.hours.length
  exact h1 s hs fun k hk => by cases hk
theorem cmpL_tr {x y z : List Int} (h1 : x.length = y.length) (h2 : cmpL x y ≤ 0) (h3 : cmpL y z ≤ 0) : cmpL x z ≤ 0 := by
  unfold cmpL at *
  rw [h1] at h2 ⊢
  exact cmpN_tr _ _ h2 h3
theorem cmpL_self {x : List Int} : cmpL x x = 0 := by have := cmpL_neg (x := x) (y := x) rfl; omega
theorem hs_spec {t : Tt} {p : List Int} : ∀ X, (hsN t p X = [] → ∀ x, x < X → ¬ lackB t p x = true) ∧ (hsN t p X ≠ [] → ∃ x, x < X ∧ lackB t p x = true ∧ hsN t p X = lw x ∧ ∀ y, y < X → lackB t p y = true → (lw x).length ≤ (lw y).length ∧ ((lw x).length = (lw y).length → cmpL (lw x) (lw y) ≤ 0))
  | 0 => ⟨fun _ x hx => by omega, fun h => absurd rfl h⟩
  | X + 1 => by
    obtain ⟨i1, i2⟩ := hs_spec (t := t) (p := p) X
    by_cases c : lackB t p X = true
    case neg =>
      rw [hs_no c]
      refine ⟨fun h x hx => ?_, fun h => ?_⟩
      · rcases Nat.lt_succ_iff_lt_or_eq.1 hx with h' | h'
        · exact i1 h x h'
        · rw [h']; exact c
      · obtain ⟨x, h1, h2, h3, h4⟩ := i2 h
        refine ⟨x, by omega, h2, h3, fun y hy hl => ?_⟩
        rcases Nat.lt_succ_iff_lt_or_eq.1 hy with h' | h'
        · exact h4 y h' hl
        · rw [h'] at hl; exact absurd hl c
    have hne := lack_ne c
    rw [hs_yes c]
    obtain ⟨b, hb⟩ : ∃ b, hsN t p X = b := ⟨_, rfl⟩
    rw [hb] at i1 i2 ⊢
    by_cases h0 : b = []
    · rw [hsS_yes (.inl (by rw [h0]; rfl))]
      refine ⟨fun h => absurd h hne, fun _ => ⟨X, by omega, c, rfl, fun y hy hl => ?_⟩⟩
      rcases Nat.lt_succ_iff_lt_or_eq.1 hy with h' | h'
      · exact absurd hl (i1 h0 y h')
      · rw [h']; exact ⟨Nat.le_refl _, fun _ => by rw [cmpL_self]; exact Int.le_refl _⟩
    · obtain ⟨x, h1, h2, h3, h4⟩ := i2 h0
      have hb0 : ¬ b.length = 0 := fun h => h0 (List.length_eq_zero_iff.1 h)
      by_cases hl : (lw X).length < b.length ∨ ((lw X).length = b.length ∧ cmpL (lw X) b < 0)
      · rw [hsS_yes (.inr hl)]
        refine ⟨fun h => absurd h hne, fun _ => ⟨X, by omega, c, rfl, fun y hy hy2 => ?_⟩⟩
        rcases Nat.lt_succ_iff_lt_or_eq.1 hy with h' | h'
        · obtain ⟨k1, k2⟩ := h4 y h' hy2
          rw [← h3] at k1 k2
          refine ⟨by omega, fun e => ?_⟩
          have e1 : (lw X).length = b.length := by omega
          exact cmpL_tr e1 (by omega) (k2 (by omega))
        · rw [h']; exact ⟨Nat.le_refl _, fun _ => by rw [cmpL_self]; exact Int.le_refl _⟩
      · rw [hsS_no (fun h => h.elim hb0 hl)]
        refine ⟨fun h => absurd h h0, fun _ => ⟨x, by omega, h2, h3, fun y hy hy2 => ?_⟩⟩
        rcases Nat.lt_succ_iff_lt_or_eq.1 hy with h' | h'
        · exact h4 y h' hy2
        · rw [h', ← h3]
          refine ⟨by omega, fun e => ?_⟩
          have := cmpL_neg (x := lw X) (y := b) e.symm
          omega
end Go.Proofs.YtofbbkacihnjdaaDoor
