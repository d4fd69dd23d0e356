/- A part of the proof that the last text ends: what functions of the program do, told by plain data. -/
import Derived.Test.YtmajlffglplcnaaDoorNK
set_option linter.unusedVariables false
set_option linter.unusedSimpArgs false
namespace Go.Proofs.YtmajlffglplcnaaDoor
open Go Go.E
theorem countP_lt {α : Type} {p q : α → Bool} : ∀ {L : List α}, (∀ x ∈ L, p x = true → q x = true) → (∃ x ∈ L, q x = true ∧ p x = false) → L.countP p < L.countP q
  | [], _, ⟨x, hx, _⟩ => by cases hx
  | a :: L, h, ⟨x, hx, h1, h2⟩ => by
    have hm : L.countP p ≤ L.countP q := List.countP_mono_left fun y hy => h y (by simp [hy])
    rw [List.countP_cons, List.countP_cons]
    rcases List.mem_cons.1 hx with rfl | hx
    · rw [h1, h2]; simp; omega
    · have ih := countP_lt (p := p) (q := q) (L := L) (fun y hy => h y (by simp [hy])) ⟨x, hx, h1, h2⟩
      have ha := h a (by simp)
      cases hp : p a
      · cases hq : q a <;> simp <;> omega
      · rw [ha hp]; simp; omega
theorem rk_mono {l : Lea} (h : leaOk l = true) {i j : Nat} (hi : i < l.far.length) (hj : j < l.far.length) (hk : ky (rowR l.games i) < ky (rowR l.games j)) : rk l.games l.far.length i < rk l.games l.far.length j := by
  have hg := lea_gs h
  have h6 := lea_fars h
  unfold rk rkN
  refine countP_lt (fun x hx hxi => ?_) ⟨i, List.mem_range.2 hi, ?_, ?_⟩
  · have hx := List.mem_range.1 hx
    rw [ahB_ky hg (by omega) (by omega)] at hxi ⊢
    omega
  · rw [ahB_ky hg (by omega) (by omega)]; exact hk
  · refine Bool.eq_false_iff.2 fun c => ?_
    rw [ahB_ky hg (by omega) (by omega)] at c
    omega
theorem rk_inj {l : Lea} (h : leaOk l = true) {i j : Nat} (hi : i < l.far.length) (hj : j < l.far.length) (he : rk l.games l.far.length i = rk l.games l.far.length j) : i = j := by
  have hg := lea_gs h
  have h6 := lea_fars h
  rcases Nat.lt_trichotomy i j with c | c | c
  · exfalso
    have hn := ky_ne hg (a := i) (b := j) (by omega) (by omega) (by omega)
    rcases Int.lt_or_gt_of_ne hn with d | d
    · have := rk_mono h hi hj d; omega
    · have := rk_mono h hj hi d; omega
  · exact c
  · exfalso
    have hn := ky_ne hg (a := j) (b := i) (by omega) (by omega) (by omega)
    rcases Int.lt_or_gt_of_ne hn with d | d
    · have := rk_mono h hj hi d; omega
    · have := rk_mono h hi hj d; omega
theorem tab_at {l : Lea} (h : leaOk l = true) {i : Nat} (hi : i < l.far.length) : (tabR l.games l.far.length).getD (rk l.games l.far.length i) default = stF l.games i := tbN_at (fun _ _ a b c => rk_inj h a b c) _ (Nat.le_refl _) i hi
end Go.Proofs.YtmajlffglplcnaaDoor
