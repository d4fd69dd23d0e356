/- A part of the proof that the last text ends: what functions of the program do, told by plain data. -/
import Derived.Test.YtmajlffglplcnaaDoorNN
set_option linter.unusedVariables false
set_option linter.unusedSimpArgs false
namespace Go.Proofs.YtmajlffglplcnaaDoor
open Go Go.E
theorem oc_games_len {l : Lea} {es : List Int} : (ocL l es).games.length = l.games.length := ocK_len
theorem oc_at {l : Lea} {es : List Int} {j : Nat} (hj : j < l.games.length) : (ocL l es).games.getD j default = ocA l.games es j := by
  show (ocK l.games es l.games.length).getD j default = _
  rw [ocK_at hj, if_pos hj]
theorem oc_closed {l : Lea} {es : List Int} (hd : dig es) (hn : es.length = openN l.games l.games.length) {j : Nat} (hj : j < l.games.length) : ¬ ((ocL l es).games.getD j default).fin = 0 := by
  rw [oc_at hj]
  unfold ocA
  by_cases c : (l.games.getD j default).fin = 0
  · have h1 := openN_yes hj c
    have h2 := openN_mono (l := l.games) (i := j + 1) (j := l.games.length) (by omega) (Nat.le_refl _)
    have h3 : openN l.games j < es.length := by omega
    rw [if_pos ⟨c, h3⟩]
    have := hd (es.getD (openN l.games j) default) (by rw [at_lt h3]; exact List.getElem_mem _)
    show ¬ 1 + _ % 2 = 0
    omega
  · rw [if_neg (fun h => c h.1)]; exact c
theorem oc_open {l : Lea} {es : List Int} (hd : dig es) (hn : es.length = openN l.games l.games.length) : ∀ k, k ≤ l.games.length → openN (ocL l es).games k = 0
  | 0, _ => by simp [openN]
  | k + 1, hk => by
    rw [openN_no (by rw [oc_games_len]; omega) (oc_closed hd hn (by omega)), oc_open hd hn k (by omega)]
theorem ocX_ok {g : Gam} {n e : Int} (h : gmOk g n = true) (he : 0 ≤ e ∧ e ≤ 3) : gmOk (ocX g e) n = true := by
  unfold gmOk at h ⊢
  simp only [Bool.and_eq_true, Bool.or_eq_true, decide_eq_true_eq, inB_iff, Bool.not_eq_true', decide_eq_false_iff_not] at h ⊢
  obtain ⟨h1, h2, h3, h4, h5, _⟩ := h
  refine ⟨h1, h2, h3, h4, ?_, .inr ⟨?_, ?_, ?_⟩⟩
  · show 0 ≤ 1 + e % 2 ∧ 1 + e % 2 ≤ 2
    omega
  · show 0 ≤ 1 - e / 2 ∧ 1 - e / 2 ≤ 99
    omega
  · show 0 ≤ e / 2 ∧ e / 2 ≤ 99
    omega
  · show ¬ 1 - e / 2 = e / 2
    omega
theorem oc_lea {l : Lea} (h : leaOk l = true) {es : List Int} (hd : dig es) (hn : es.length = openN l.games l.games.length) : leaOk (ocL l es) = true := by
  have h0 := h
  have ho := oc_open hd hn l.games.length (Nat.le_refl _)
  have hg : ∀ g ∈ (ocL l es).games, gmOk g l.far.length = true := fun g hg => by
    obtain ⟨j, hj, rfl⟩ := List.getElem_of_mem hg
    rw [oc_games_len] at hj
    rw [← at_lt, oc_at hj]
    unfold ocA
    split
    · rename_i c
      exact ocX_ok (lea_gm h hj) (hd _ (by rw [at_lt c.2]; exact List.getElem_mem _))
    · exact lea_gm h hj
  unfold leaOk at h0 ⊢
  simp only [Bool.and_eq_true, decide_eq_true_eq, List.all_eq_true] at h0 ⊢
  refine ⟨h0.1, by rw [oc_games_len]; exact h0.2.1, h0.2.2.1, hg, ?_⟩
  rw [oc_games_len, ho]
  omega
end Go.Proofs.YtmajlffglplcnaaDoor
