/- A part of the proof that the last text ends: what functions of the program do, told by plain data. -/
import Derived.Test.YtmajlffglplcnaaDoorNM
set_option linter.unusedVariables false
set_option linter.unusedSimpArgs false
namespace Go.Proofs.YtmajlffglplcnaaDoor
open Go Go.E
theorem nd_le_iff {l : Lea} (hl : leaOk l = true) {t p : Int} (ht : 0 ≤ t ∧ t < l.far.length) (m : Int) : ndN l t p (outO l) (outO l).length ≤ m ↔ 0 ≤ m ∧ ∀ es ∈ outO l, V.vT l t p (Tof l.far.length (ptsF (ocL l es).games)) ≤ m := by
  unfold ndN
  rw [List.take_length, V.ndN_v hl ht _ _ (Int.le_refl _)]
  exact V.mx_le _ _ _ _
theorem vT_oc {l : Lea} (hl : leaOk l = true) {t p : Int} (ht : 0 ≤ t ∧ t < l.far.length) {es : List Int} : V.vT l t p (Tof l.far.length (ptsF (ocL l es).games)) = if p ≤ saF (ocL l es) t then (stF (ocL l es).games t).pts - (stF l.games t).pts + 1 else 0 := by
  have h6 := lea_fars hl
  unfold V.vT saF
  rw [Tof_at (by omega), if_pos (show t.toNat < l.far.length by omega), cnT_Tof h6]
  unfold ptsF
  rw [show ((t.toNat : Nat) : Int) = t by omega]; rfl
theorem nd_enough {l : Lea} (hl : leaOk l = true) {t p : Int} (ht : 0 ≤ t ∧ t < l.far.length) {es : List Int} (he : es ∈ outO l) (h : ndN l t p (outO l) (outO l).length ≤ (stF (ocL l es).games t).pts - (stF l.games t).pts) : saF (ocL l es) t < p := by
  have h1 := ((nd_le_iff hl ht (p := p) _).1 (Int.le_refl _)).2 es he
  rw [vT_oc hl ht] at h1
  split at h1 <;> omega
theorem nd_nn {l : Lea} (hl : leaOk l = true) {t p : Int} (ht : 0 ≤ t ∧ t < l.far.length) : 0 ≤ ndN l t p (outO l) (outO l).length := ((nd_le_iff hl ht (p := p) _).1 (Int.le_refl _)).1
theorem sN_nn {l : Lea} (hl : leaOk l = true) {es : List Int} (hd : dig es) {i : Nat} : ∀ k, k ≤ l.games.length → 0 ≤ sN l.games es i k
  | 0, _ => by simp [sN]
  | k + 1, hk => by
    rw [sN_succ]
    have := sN_nn hl hd (i := i) k (by omega)
    split
    · have hp : 0 ≤ ptG (ocA l.games es k) i := by
        unfold ptG
        repeat' split
        all_goals omega
      omega
    · omega
theorem ed_mem {l : Lea} {bs : List Int} : edN l bs l.games.length ∈ outO l := by
  unfold outO
  rw [outsL_mem]
  refine ⟨edN l bs l.games.length, rfl, ?_, fun e he => ?_⟩
  · rw [edN_len]; unfold lfF; rw [lf_open]
  · unfold edN at he
    obtain ⟨j, _, rfl⟩ := List.mem_map.1 he
    omega
theorem out_dig {l : Lea} {es : List Int} (he : es ∈ outO l) : dig es ∧ es.length = openN l.games l.games.length := by
  unfold outO at he
  rw [outsL_mem] at he
  obtain ⟨c, hc, h1, h2⟩ := he
  rw [List.nil_append] at hc
  subst hc
  refine ⟨h2, ?_⟩
  rw [h1]; unfold lfF; rw [lf_open]
theorem pts_up {l : Lea} (hl : leaOk l = true) {es : List Int} (he : es ∈ outO l) {t : Nat} : (stF l.games (t : Int)).pts ≤ (stF (ocL l es).games (t : Int)).pts := by
  have h := oc_pts (l := l.games) (es := es) (i := t) l.games.length (Nat.le_refl _)
  have hs := sN_nn hl (out_dig he).1 (i := t) l.games.length (Nat.le_refl _)
  unfold stF
  have hlen : (ocL l es).games.length = l.games.length := ocK_len
  rw [hlen]
  show _ ≤ (stN (ocG l.games es) t l.games.length).pts
  omega
theorem is_nd {l : Lea} (hl : leaOk l = true) {t p : Int} (ht : 0 ≤ t ∧ t < l.far.length) : isN l t p (outO l) (outO l).length = decide (ndN l t p (outO l) (outO l).length = 0) := by
  have hn := nd_nn hl ht (p := p)
  have h0 := nd_le_iff hl ht (p := p) 0
  rw [Bool.eq_iff_iff, decide_eq_true_eq]
  unfold isN
  rw [List.take_length, List.all_eq_true]
  constructor
  · intro h
    have : ndN l t p (outO l) (outO l).length ≤ 0 := h0.2 ⟨Int.le_refl _, fun es he => by
      rw [vT_oc hl ht, if_neg (by have := of_decide_eq_true (h es he); omega)]
      exact Int.le_refl _⟩
    omega
  · intro h es he
    have h1 := (h0.1 (by omega)).2 es he
    rw [vT_oc hl ht] at h1
    have h2 := pts_up hl he (t := t.toNat)
    rw [show ((t.toNat : Nat) : Int) = t by omega] at h2
    refine decide_eq_true ?_
    split at h1 <;> omega
end Go.Proofs.YtmajlffglplcnaaDoor
