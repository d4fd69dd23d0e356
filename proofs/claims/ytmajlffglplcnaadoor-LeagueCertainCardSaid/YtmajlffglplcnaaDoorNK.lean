/- A part of the proof that the last text ends: what functions of the program do, told by plain data. -/
import Derived.Test.YtmajlffglplcnaaDoorNJ
import Derived.Test.YtmajlffglplcnaaDoorNG
set_option linter.unusedVariables false
set_option linter.unusedSimpArgs false
namespace Go.Proofs.YtmajlffglplcnaaDoor
open Go Go.E
theorem mo_sa {l : Lea} {t : Int} : moF l t ≤ saF l t := by
  unfold moF saF cnN
  have : (List.range l.far.length).countP (cnB (ptsF l.games) t ((stF l.games t).pts + 1)) ≤ (List.range l.far.length).countP (cnB (ptsF l.games) t (stF l.games t).pts) := by
    refine List.countP_mono_left fun i _ h => ?_
    unfold cnB at h ⊢
    simp only [Bool.and_eq_true, decide_eq_true_eq] at h ⊢
    exact ⟨h.1, by omega⟩
  exact_mod_cast this
theorem sa_b {l : Lea} {t : Int} : 0 ≤ moF l t ∧ saF l t ≤ l.far.length := by
  unfold moF saF
  have := cnN_le (f := ptsF l.games) (t := t) (m := (stF l.games t).pts) (k := l.far.length)
  omega
theorem out_pos {l : Lea} : 0 < (outO l).length := by
  unfold outO; rw [outsL_len]; exact Nat.pow_pos (by decide)
theorem open_none {l : Lea} (h : openN l.games l.games.length = 0) {j : Nat} (hj : j < l.games.length) : ¬ (l.games.getD j default).fin = 0 := fun c => by
  have h1 := openN_yes hj c
  have h2 := openN_mono (l := l.games) (i := j + 1) (j := l.games.length) (by omega) (Nat.le_refl _)
  omega
theorem oc_none {l : Lea} (h : openN l.games l.games.length = 0) {es : List Int} : ocL l es = l := by
  unfold ocL ocG
  have e : ocK l.games es l.games.length = l.games := by
    apply List.ext_getElem ocK_len
    intro j h1 h2
    rw [← at_lt h1, ← at_lt h2, ocK_at h2, if_pos h2]
    unfold ocA
    rw [if_neg (fun c => open_none h h2 c.1)]
  rw [e]
theorem out_none {l : Lea} (h : openN l.games l.games.length = 0) : outO l = [[]] := by
  have : lfF l.games (-1) = 0 := by unfold lfF; rw [lf_open]; exact h
  unfold outO
  rw [this]; rfl
theorem cl_none {l : Lea} {t p : Int} (he : errR l t p = 0) (h : openN l.games l.games.length = 0) : clR l t p = (decide (saF l t < p), decide (p ≤ moF l t), 0) := by
  unfold clR
  rw [if_pos he, out_none h]
  unfold isN ntN
  simp [oc_none h]
theorem is_all {l : Lea} {t p : Int} (h : isN l t p (outO l) (outO l).length = true) {es : List Int} (he : es ∈ outO l) : saF (ocL l es) t < p := by
  unfold isN at h
  rw [List.take_length, List.all_eq_true] at h
  simpa using h es he
theorem nt_all {l : Lea} {t p : Int} (h : ntN l t p (outO l) (outO l).length = true) {es : List Int} (he : es ∈ outO l) : p ≤ moF (ocL l es) t := by
  unfold ntN at h
  rw [List.take_length, List.all_eq_true] at h
  simpa using h es he
theorem not_both {l : Lea} {t p : Int} (h1 : isN l t p (outO l) (outO l).length = true) (h2 : ntN l t p (outO l) (outO l).length = true) : False := by
  have hm : (outO l)[0]'out_pos ∈ outO l := List.getElem_mem _
  have a := is_all h1 hm
  have b := nt_all h2 hm
  have c := mo_sa (l := ocL l ((outO l)[0]'out_pos)) (t := t)
  omega
end Go.Proofs.YtmajlffglplcnaaDoor
