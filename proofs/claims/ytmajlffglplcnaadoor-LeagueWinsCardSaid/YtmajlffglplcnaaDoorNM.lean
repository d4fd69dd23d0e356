/- A part of the proof that the last text ends: what functions of the program do, told by plain data. -/
import Derived.Test.YtmajlffglplcnaaDoorNL
set_option linter.unusedVariables false
set_option linter.unusedSimpArgs false
namespace Go.Proofs.YtmajlffglplcnaaDoor
open Go Go.E
theorem rk_sur {l : Lea} (h : leaOk l = true) {q : Nat} (hq : q < l.far.length) : ∃ j, j < l.far.length ∧ rk l.games l.far.length j = q := by
  apply Classical.byContradiction
  intro hno
  have hd : (q :: (List.range l.far.length).map fun j : Nat => rk l.games l.far.length j).Nodup := by
    refine List.nodup_cons.2 ⟨fun hm => ?_, ?_⟩
    · obtain ⟨j, hj, e⟩ := List.mem_map.1 hm
      exact hno ⟨j, List.mem_range.1 hj, e⟩
    · rw [List.nodup_iff_pairwise_ne, List.pairwise_iff_getElem]
      intro i j hi hj hij
      simp only [List.length_map, List.length_range] at hi hj
      simp only [List.getElem_map, List.getElem_range]
      intro e
      have := rk_inj h hi hj e
      omega
  have := nd_le l.far.length _ hd fun i hi => by
    rcases List.mem_cons.1 hi with rfl | hi
    · exact hq
    · obtain ⟨j, hj, e⟩ := List.mem_map.1 hi
      rw [← e]
      exact rk_lt (List.mem_range.1 hj)
  simp at this
  omega
theorem tabR_len {l : Lea} : (tabR l.games l.far.length).length = l.far.length := tbN_len _
theorem plN_skip {T : List Std} {t : Int} {r : Nat} (hr : r < T.length) (ht : (T.getD r default).team = t) (hne : ∀ k, k < r → ¬ (T.getD k default).team = t) : ∀ n, T.length - r ≤ n → n ≤ T.length → plN T t n = ((r : Int) + 1, T.getD r default)
  | 0, h1, _ => by omega
  | n + 1, h1, h2 => by
    show (if (T.getD (T.length - (n + 1)) default).team = t then _ else _) = _
    by_cases c : T.length - (n + 1) = r
    · rw [c, if_pos ht]
    · rw [if_neg (hne _ (by omega))]
      exact plN_skip hr ht hne n (by omega) (by omega)
theorem place_at {l : Lea} (h : leaOk l = true) {t : Nat} (ht : t < l.far.length) : plF (tabR l.games l.far.length) t = ((rk l.games l.far.length t : Int) + 1, stF l.games t) := by
  have hr : rk l.games l.far.length t < l.far.length := rk_lt ht
  have e := tab_at h ht
  unfold plF
  rw [← e]
  refine plN_skip (by rw [tabR_len]; exact hr) (by rw [e]; exact stF_team) (fun k hk c => ?_) _ (by omega) (Nat.le_refl _)
  obtain ⟨j, hj, ej⟩ := rk_sur h (q := k) (by omega)
  have e2 := tab_at h hj
  rw [ej] at e2
  rw [e2] at c
  have : (stF l.games (j : Int)).team = (j : Int) := stF_team
  rw [this] at c
  have : j = t := by omega
  subst this
  omega
end Go.Proofs.YtmajlffglplcnaaDoor
