/- A part of the proof that the last text ends: what functions of the program do, told by plain data. -/
import Derived.Test.YtofbbkacihnjdaaDoorHPb
set_option linter.unusedVariables false
set_option linter.unusedSimpArgs false
namespace Go.Proofs.YtofbbkacihnjdaaDoor
open Go Go.E Go.Maps
set_option maxRecDepth 100000
set_option maxHeartbeats 1000000
theorem get_take {p : List Int} {n j : Nat} (h : j < n) : (p.take n).getD j default = p.getD j default := by
  simp [List.getD, List.getElem?_take, h]
theorem er_pre {t : Tt} {p q : List Int} {i : Nat} (h : p.take (i + 1) = q.take (i + 1)) : erR t p i = erR t q i := by
  have e : ∀ j, j < i + 1 → p.getD j default = q.getD j default := fun j hj => by rw [← get_take hj, h, get_take hj]
  unfold erR cnG
  rw [h, e i (by omega), e (i - 1) (by omega)]
theorem pad_lo {p : List Int} {n m j : Nat} (h : j < n) (hn : n ≤ p.length) : (padL (p.take n) m).getD j default = p.getD j default := by
  have : (p.take n).length = n := by rw [List.length_take]; omega
  simp [padL, List.getD, List.getElem?_append, this, h, List.getElem?_take, List.getElem?_eq_getElem (show j < p.length by omega)]
theorem pad_hi {p : List Int} {n m j : Nat} (h : n ≤ j) (hn : n ≤ p.length) (hm : j < m) : (padL (p.take n) m).getD j default = -1 := by
  have h1 : (p.take n).length = n := by rw [List.length_take]; omega
  have h2 : ¬ j < n := by omega
  have h3 : j - n < m - n := by omega
  simp [padL, List.getD, List.getElem?_append, Nat.min_eq_left hn, h2, List.getElem?_replicate, h3]
theorem pad_pre {p : List Int} {n m i : Nat} (h : i < n) (hn : n ≤ p.length) : (padL (p.take n) m).take (i + 1) = p.take (i + 1) := by
  have h1 : (p.take n).length = n := by rw [List.length_take]; omega
  unfold padL
  rw [List.take_append_of_le_length (by omega), List.take_take, Nat.min_eq_left (by omega)]
theorem pad_fo {t : Tt} {p : List Int} (hf : foP t p) {n : Nat} (hn : n ≤ p.length) : foP t (padL (p.take n) p.length) := fun j hj => by
  have hl : (padL (p.take n) p.length).length = p.length := padL_len (by rw [List.length_take]; omega)
  rw [hl] at hj
  rcases Nat.lt_or_ge j n with c | c
  · rw [pad_lo c hn]; exact hf j hj
  · rw [pad_hi c hn hj]; omega
theorem ck_err {t : Tt} {p : List Int} (ht : ttOk t = true) (hp : plOk t p = true) (h : (ckR t p).2.2 ≠ 0) : ∃ n : Nat, n < p.length ∧ (ckR t p).2.1 = n ∧ (ckR t p).1 = [] ∧ (ckR t p).2.2 ≠ 1 ∧ (ckR t p).2.2 ≠ 2 ∧ goodB t (padL (p.take n) p.length) = true ∧ goodB t (padL (p.take (n + 1)) p.length) = false := by
  have hf := pl_fo hp
  have hr : ckR t p = ckN t p p.length 0 := by unfold ckR; rw [if_pos ht, if_pos hp]
  rw [hr] at h ⊢
  rcases ckN_spec (t := t) (p := p) p.length 0 (by omega) with ⟨h1, _⟩ | ⟨n, h1, h2, h3, h4, h5⟩
  · exact absurd h1 h
  rw [h3]
  have hl : ∀ m, m ≤ p.length → (padL (p.take m) p.length).length = p.length := fun m hm => padL_len (by rw [List.length_take]; omega)
  have h12 : erR t p n ≠ 1 ∧ erR t p n ≠ 2 := by
    unfold erR
    repeat' split
    all_goals decide
  refine ⟨n, h2, rfl, rfl, h12.1, h12.2, good_iff.2 ⟨pl_of (pad_fo hf.1 (by omega)) (by rw [hl n (by omega)]; exact hf.2), fun j hj => ?_⟩, ?_⟩
  · rw [hl n (by omega)] at hj
    rcases Nat.lt_or_ge j n with c | c
    · rw [er_pre (pad_pre c (by omega))]; exact h5 j (Nat.zero_le _) c
    · exact er_neg (by rw [pad_hi c (by omega) hj]; omega)
  · refine good_no (i := n) (by rw [hl (n + 1) (by omega)]; omega) ?_
    rw [er_pre (pad_pre (by omega) (by omega))]
    exact h4
theorem ck_arg {t : Tt} {p : List Int} (h : (ckR t p).2.2 = 1 ∨ (ckR t p).2.2 = 2) : (ckR t p).1 = [] ∧ (ckR t p).2.1 = 0 := by
  by_cases ht : ttOk t = true
  · by_cases hp : plOk t p = true
    · exfalso
      by_cases c : (ckR t p).2.2 = 0
      · rw [c] at h; omega
      · obtain ⟨n, _, _, _, h1, h2, _⟩ := ck_err ht hp c
        omega
    · unfold ckR; rw [if_pos ht, if_neg hp]; exact ⟨rfl, rfl⟩
  · unfold ckR; rw [if_neg ht]; exact ⟨rfl, rfl⟩
theorem ck_form {t : Tt} {p : List Int} (h : ¬ ((ckR t p).2.2 = 1 ∨ (ckR t p).2.2 = 2)) : ttOk t = true ∧ plOk t p = true := by
  unfold ckR at h
  by_cases ht : ttOk t = true
  · by_cases hp : plOk t p = true
    · exact ⟨ht, hp⟩
    · rw [if_pos ht, if_neg hp] at h; exact absurd (.inr rfl) h
  · rw [if_neg ht] at h; exact absurd (.inl rfl) h
theorem ck_good {t : Tt} {p : List Int} (ht : ttOk t = true) : goodB t p = decide ((ckR t p).2.2 = 0) := by
  rw [Bool.eq_iff_iff, good_iff, decide_eq_true_eq, ck_ok ht]
end Go.Proofs.YtofbbkacihnjdaaDoor
