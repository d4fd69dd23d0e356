/- A part of the proof that the last text ends: what functions of the program do, told by plain data. -/
import Derived.Test.YtmajlffglplcnaaDoorNC
set_option linter.unusedVariables false
set_option linter.unusedSimpArgs false
namespace Go.Proofs.YtmajlffglplcnaaDoor
open Go Go.E
def onG (l : Lea) (t : Int) (k : Nat) : List Gam := (l.games.take k).filter fun g => hasB g t
def lea1 (l : Lea) (t : Int) : Lea := ⟨l.far, onG l t l.games.length⟩
def lea2 (l : Lea) (t : Int) : Lea := ⟨l.far, onG l t l.games.length ++ onG l t l.games.length⟩
theorem onG_yes {l : Lea} {t : Int} {k : Nat} (h : k < l.games.length) (c : hasB (l.games.getD k default) t = true) : onG l t (k + 1) = onG l t k ++ [l.games.getD k default] := by
  unfold onG; rw [take_succ h, List.filter_append, List.filter_cons_of_pos (by exact c)]; rfl
theorem onG_no {l : Lea} {t : Int} {k : Nat} (h : k < l.games.length) (c : ¬ hasB (l.games.getD k default) t = true) : onG l t (k + 1) = onG l t k := by
  unfold onG; rw [take_succ h, List.filter_append, List.filter_cons_of_neg (by exact c)]; simp
theorem onG_len {l : Lea} {t : Int} {k : Nat} : (onG l t k).length ≤ k := by
  unfold onG
  exact Nat.le_trans (List.length_filter_le _ _) (by rw [List.length_take]; omega)
theorem onG_mem {l : Lea} {t : Int} {k : Nat} {g : Gam} (h : g ∈ onG l t k) : g ∈ l.games ∧ hasB g t = true := by
  unfold onG at h
  obtain ⟨h1, h2⟩ := List.mem_filter.1 h
  exact ⟨List.mem_of_mem_take h1, h2⟩
theorem fold_on {far : List (List Int)} {t : Int} : ∀ (G : List Gam) (s : Int × Int), (G.filter fun g => hasB g t).foldl (trG far t) s = G.foldl (trG far t) s
  | [], _ => rfl
  | g :: G, s => by
    by_cases c : hasB g t = true
    · rw [List.filter_cons_of_pos (by simpa using c), List.foldl_cons, List.foldl_cons, fold_on G]
    · rw [List.filter_cons_of_neg (by simpa using c), List.foldl_cons, fold_on G]
      congr 1
      unfold trG; rw [if_neg c]
theorem fold_on_N {l : Lea} {t : Int} : (onG l t l.games.length).foldl (trG l.far t) (0, t) = trN l t l.games.length := by
  unfold onG trN; exact fold_on _ _
theorem fold_shift {far : List (List Int)} {t : Int} (z : Int) : ∀ (G : List Gam) (a c : Int), G.foldl (trG far t) (a + z, c) = ((G.foldl (trG far t) (a, c)).1 + z, (G.foldl (trG far t) (a, c)).2)
  | [], _, _ => rfl
  | g :: G, a, c => by
    rw [List.foldl_cons, List.foldl_cons]
    by_cases h : hasB g t = true
    · have e1 : trG far t (a + z, c) g = ((a + fr far c g.home) + z, g.home) := by unfold trG; rw [if_pos h]; simp only [Prod.mk.injEq, and_true]; omega
      have e2 : trG far t (a, c) g = (a + fr far c g.home, g.home) := by unfold trG; rw [if_pos h]
      rw [e1, e2]
      exact fold_shift z G _ _
    · have e1 : ∀ s, trG far t s g = s := fun s => by unfold trG; rw [if_neg h]
      rw [e1, e1]
      exact fold_shift z G _ _
theorem trF_1 {l : Lea} {t : Int} : trF (lea1 l t) t = trF l t := by
  have h : trN (lea1 l t) t (lea1 l t).games.length = trN l t l.games.length := by
    rw [← fold_on_N (l := l)]
    unfold trN
    rw [List.take_length]; rfl
  unfold trF
  rw [h]; rfl
theorem trN_2 {l : Lea} {t : Int} : trN (lea2 l t) t (lea2 l t).games.length = (onG l t l.games.length).foldl (trG l.far t) (trN l t l.games.length) := by
  rw [← fold_on_N (l := l)]
  unfold trN
  rw [List.take_length]
  show (onG l t l.games.length ++ onG l t l.games.length).foldl (trG l.far t) (0, t) = _
  rw [List.foldl_append]
theorem trF_2n {l : Lea} {t : Int} (h : onG l t l.games.length = []) : trF (lea2 l t) t = trF l t := by
  have e : trN (lea2 l t) t (lea2 l t).games.length = trN l t l.games.length := by rw [trN_2, h]; rfl
  unfold trF
  rw [e]; rfl
theorem trF_2c {l : Lea} {t : Int} (h : onG l t l.games.length ≠ []) : trF (lea2 l t) t = 2 * trF l t - fr l.far (trN l t l.games.length).2 t - fr l.far t ((onG l t l.games.length).getD 0 default).home + fr l.far (trN l t l.games.length).2 ((onG l t l.games.length).getD 0 default).home := by
  obtain ⟨g, G, hG⟩ : ∃ g G, onG l t l.games.length = g :: G := by
    cases hq : onG l t l.games.length with
    | nil => exact absurd hq h
    | cons g G => exact ⟨g, G, rfl⟩
  have hb : hasB g t = true := (onG_mem (l := l) (t := t) (k := l.games.length) (by rw [hG]; simp)).2
  have e0 := trN_2 (l := l) (t := t)
  have e1 := fold_on_N (l := l) (t := t)
  rw [hG] at e0 e1
  rw [List.foldl_cons] at e0 e1
  obtain ⟨d, c, hdc⟩ : ∃ d c, trN l t l.games.length = (d, c) := ⟨_, _, rfl⟩
  rw [hdc] at e0 e1
  have k1 : trG l.far t (0, t) g = (0 + fr l.far t g.home, g.home) := by unfold trG; rw [if_pos hb]
  have k2 : trG l.far t (d, c) g = (0 + (d + fr l.far c g.home), g.home) := by unfold trG; rw [if_pos hb]; simp
  rw [k1, fold_shift] at e1
  rw [k2, fold_shift] at e0
  simp only [Prod.mk.injEq] at e1
  unfold trF
  rw [e0, hdc, hG]
  show _ + fr l.far _ t = _
  simp only [List.getD_cons_zero]
  rw [e1.2]
  omega
theorem lea_sub {l : Lea} (h : leaOk l = true) {G : List Gam} (hG : ∀ g ∈ G, g ∈ l.games) (hn : G.length ≤ 64) (ho : openN G G.length ≤ 8) : leaOk ⟨l.far, G⟩ = true := by
  unfold leaOk at h ⊢
  simp only [Bool.and_eq_true, decide_eq_true_eq, List.all_eq_true] at h ⊢
  exact ⟨h.1, by omega, h.2.2.1, fun g hg => h.2.2.2.1 g (hG g hg), by omega⟩
theorem open_filter (t : Int) : ∀ G : List Gam, (G.filter fun g => hasB g t).countP (fun g => decide (g.fin = 0)) ≤ G.countP (fun g => decide (g.fin = 0)) := fun G => List.Sublist.countP_le List.filter_sublist
theorem open_on {l : Lea} {t : Int} : (onG l t l.games.length).countP (fun g => decide (g.fin = 0)) ≤ openN l.games l.games.length := by
  unfold onG openN
  exact open_filter t _
theorem lea1_ok {l : Lea} (h : leaOk l = true) {t : Int} : leaOk (lea1 l t) = true := by
  have h8 : openN l.games l.games.length ≤ 8 := by
    unfold leaOk at h
    simp only [Bool.and_eq_true, decide_eq_true_eq] at h
    omega
  refine lea_sub h (fun g hg => (onG_mem hg).1) (Nat.le_trans onG_len (lea_games h)) ?_
  have := open_on (l := l) (t := t)
  unfold openN
  rw [List.take_length]
  omega
theorem lea2_ok {l : Lea} (h : leaOk l = true) {t : Int} (h4 : openN l.games l.games.length ≤ 4) (h32 : l.games.length ≤ 32) : leaOk (lea2 l t) = true := by
  have k := onG_len (l := l) (t := t) (k := l.games.length)
  refine lea_sub h (fun g hg => ?_) (by rw [List.length_append]; omega) ?_
  · rcases List.mem_append.1 hg with hg | hg
    · exact (onG_mem hg).1
    · exact (onG_mem hg).1
  · have := open_on (l := l) (t := t)
    unfold openN
    rw [List.take_length, List.countP_append]
    omega
end Go.Proofs.YtmajlffglplcnaaDoor
