/- A part of the proof that the last text ends: what functions of the program do, told by plain data. -/
import Derived.Test.YtmajlffglplcnaaDoorMQ
set_option linter.unusedVariables false
set_option linter.unusedSimpArgs false
namespace Go.Proofs.YtmajlffglplcnaaDoor
open Go Go.E
def rowR (l : List Gam) (t : Nat) : Row := ⟨stF l t, amF l t⟩
def rowsR (l : Lea) : List Row := (List.range l.far.length).map (rowR l.games)
theorem rowsR_oc {l : Lea} : rwF l = (rowsR l).map oc := by
  unfold rwF rw rowsR
  rw [List.map_map]; rfl
theorem rowsR_len {l : Lea} : (rowsR l).length = l.far.length := by simp [rowsR]
theorem stF_team {l : List Gam} {t : Int} : (stF l t).team = t := stN_team _ (Nat.le_refl _)
theorem rowR_ok {l : List Gam} (h : gsOk l) {t : Nat} (ht : t ≤ 5) : RowOk (rowR l t) := by
  refine ⟨stF_b h, amF_b h, ?_⟩
  show 0 ≤ (stF l t).team ∧ _
  unfold rowR
  rw [stF_team]; omega
theorem rowsR_ok {l : Lea} (h : leaOk l = true) : ∀ x ∈ rowsR l, RowOk x := fun x hx => by
  obtain ⟨t, ht, rfl⟩ := List.mem_map.1 hx
  have := lea_fars h
  have := List.mem_range.1 ht
  exact rowR_ok (lea_gs h) (by omega)
theorem ahB_ky {l : List Gam} (h : gsOk l) {a b : Nat} (ha : a ≤ 5) (hb : b ≤ 5) : (ahB l a b = true) ↔ ky (rowR l a) < ky (rowR l b) := by
  obtain ⟨a1, a2, a3⟩ := rowR_ok h ha
  obtain ⟨b1, b2, b3⟩ := rowR_ok h hb
  have ta : (rowR l a).s.team = a := stF_team
  have tb : (rowR l b).s.team = b := stF_team
  unfold StB at a1 b1
  unfold ahB ky
  show (if (rowR l a).s.pts = (rowR l b).s.pts then _ else _) = true ↔ _
  by_cases c0 : (rowR l a).s.pts = (rowR l b).s.pts
  case neg => rw [if_neg c0]; show decide ((rowR l b).s.pts < (rowR l a).s.pts) = true ↔ _; rw [decide_eq_true_eq]; omega
  rw [if_pos c0]
  show (if (rowR l a).am = (rowR l b).am then _ else _) = true ↔ _
  by_cases c1 : (rowR l a).am = (rowR l b).am
  case neg => rw [if_neg c1]; show decide ((rowR l b).am < (rowR l a).am) = true ↔ _; rw [decide_eq_true_eq]; omega
  rw [if_pos c1]
  show (if (rowR l a).s.gf - (rowR l a).s.ga = (rowR l b).s.gf - (rowR l b).s.ga then _ else _) = true ↔ _
  by_cases c2 : (rowR l a).s.gf - (rowR l a).s.ga = (rowR l b).s.gf - (rowR l b).s.ga
  case neg => rw [if_neg c2]; show decide ((rowR l b).s.gf - (rowR l b).s.ga < (rowR l a).s.gf - (rowR l a).s.ga) = true ↔ _; rw [decide_eq_true_eq]; omega
  rw [if_pos c2]
  show (if (rowR l a).s.gf = (rowR l b).s.gf then _ else _) = true ↔ _
  by_cases c3 : (rowR l a).s.gf = (rowR l b).s.gf
  case neg => rw [if_neg c3]; show decide ((rowR l b).s.gf < (rowR l a).s.gf) = true ↔ _; rw [decide_eq_true_eq]; omega
  rw [if_pos c3, decide_eq_true_eq]
  omega
theorem ky_ne {l : List Gam} (h : gsOk l) {a b : Nat} (ha : a ≤ 5) (hb : b ≤ 5) (hab : a ≠ b) : ky (rowR l a) ≠ ky (rowR l b) := by
  obtain ⟨a1, a2, a3⟩ := rowR_ok h ha
  obtain ⟨b1, b2, b3⟩ := rowR_ok h hb
  have ta : (rowR l a).s.team = a := stF_team
  have tb : (rowR l b).s.team = b := stF_team
  unfold StB at a1 b1
  unfold ky
  omega
theorem sorted_count {L : List Row} (hs : SrtI ky 0 L.length L) (hd : (L.map ky).Nodup) {p : Nat} (hp : p < L.length) : L.countP (fun x => decide (ky x < ky (L.getD p default))) = p := by
  have hlt : ∀ i j, i < j → (hj : j < L.length) → ky (L.getD i default) < ky (L.getD j default) := fun i j hij hj => by
    have h1 := hs i j (Nat.zero_le _) (by omega) hj
    have h2 : ky (L.getD i default) ≠ ky (L.getD j default) := by
      rw [at_lt (by omega), at_lt hj]
      intro e
      have := (List.nodup_iff_pairwise_ne.1 hd)
      have := List.pairwise_iff_getElem.1 this i j (by simp; omega) (by simpa using hj) hij
      simp only [List.getElem_map] at this
      exact this e
    omega
  have e1 : (L.take p).countP (fun x => decide (ky x < ky (L.getD p default))) = (L.take p).length := by
    rw [List.countP_eq_length]
    intro x hx
    obtain ⟨i, hi, rfl⟩ := List.getElem_of_mem hx
    rw [List.length_take] at hi
    rw [List.getElem_take, decide_eq_true_eq]
    have := hlt i p (by omega) hp
    rwa [at_lt (by omega)] at this
  have e2 : (L.drop p).countP (fun x => decide (ky x < ky (L.getD p default))) = 0 := by
    rw [List.countP_eq_zero]
    intro x hx
    obtain ⟨i, hi, rfl⟩ := List.getElem_of_mem hx
    rw [List.length_drop] at hi
    rw [List.getElem_drop, decide_eq_true_eq]
    by_cases c : i = 0
    · subst c
      rw [at_lt hp]
      simp
    · have := hlt p (p + i) (by omega) (by omega)
      rw [at_lt (i := p + i) (by omega)] at this
      omega
  have key : L.countP (fun x => decide (ky x < ky (L.getD p default))) = (L.take p).countP (fun x => decide (ky x < ky (L.getD p default))) + (L.drop p).countP (fun x => decide (ky x < ky (L.getD p default))) := by
    rw [← List.countP_append, List.take_append_drop]
  rw [key, e1, e2, List.length_take]
  omega
theorem tbN_at {l : List Gam} {n : Nat} (hinj : ∀ i j, i < n → j < n → rk l n i = rk l n j → i = j) : ∀ k, k ≤ n → ∀ i, i < k → (tbN l n k).getD (rk l n i) default = stF l i
  | 0, _, i, hi => by omega
  | k + 1, hk, i, hi => by
    unfold tbN
    have hl := tbN_len (l := l) (n := n) k
    have hr : rk l n k < n := rk_lt (by omega)
    by_cases c : i = k
    · subst c
      rw [List.getD_eq_getElem?_getD, List.getElem?_set_self (by omega)]; rfl
    · have ih := tbN_at hinj k (by omega) i (by omega)
      rw [List.getD_eq_getElem?_getD, List.getElem?_set_ne (fun e => c (hinj k i (by omega) (by omega) e).symm)]
      rwa [List.getD_eq_getElem?_getD] at ih
theorem table_law {l : Lea} (h : leaOk l = true) {L : List Row} (hp : L.Perm (rowsR l)) (hs : SrtI ky 0 L.length L) : L.map Row.s = tabR l.games l.far.length := by
  have hg := lea_gs h
  have h6 := lea_fars h
  have hlen : L.length = l.far.length := by rw [hp.length_eq, rowsR_len]
  have hnd : (L.map ky).Nodup := by
    rw [(hp.map ky).nodup_iff]
    unfold rowsR
    rw [List.map_map, List.nodup_iff_pairwise_ne, List.pairwise_iff_getElem]
    intro i j hi hj hij
    simp only [List.length_map, List.length_range] at hi hj
    simp only [List.getElem_map, List.getElem_range, Function.comp]
    exact ky_ne hg (by omega) (by omega) (by omega)
  have hrk : ∀ p i, p < L.length → i < l.far.length → L.getD p default = rowR l.games i → rk l.games l.far.length i = p := fun p i hpl hi he => by
    have h1 := sorted_count hs hnd hpl
    rw [he, hp.countP_eq] at h1
    rw [← h1]
    unfold rk rkN rowsR
    rw [List.countP_map]
    apply List.countP_congr
    intro j hj
    have hj := List.mem_range.1 hj
    rw [ahB_ky hg (by omega) (by omega)]
    simp
  have hinj : ∀ i j, i < l.far.length → j < l.far.length → rk l.games l.far.length i = rk l.games l.far.length j → i = j := fun i j hi hj he => by
    have hm : ∀ k, k < l.far.length → ∃ p, p < L.length ∧ L.getD p default = rowR l.games k := fun k hk => by
      have : rowR l.games k ∈ L := hp.mem_iff.2 (List.mem_map.2 ⟨k, List.mem_range.2 hk, rfl⟩)
      obtain ⟨p, hpl, e⟩ := List.getElem_of_mem this
      exact ⟨p, hpl, by rw [at_lt hpl, e]⟩
    obtain ⟨p, hp1, hp2⟩ := hm i hi
    obtain ⟨q, hq1, hq2⟩ := hm j hj
    have e1 := hrk p i hp1 hi hp2
    have e2 := hrk q j hq1 hj hq2
    rw [e1, e2] at he
    subst he
    rw [hp2] at hq2
    have := congrArg (fun x => x.s.team) hq2
    simp only [rowR, stF_team] at this
    omega
  have hat := tbN_at hinj l.far.length (Nat.le_refl _)
  apply List.ext_getElem (by rw [List.length_map, hlen]; exact (tbN_len _).symm)
  intro p h1 h2
  have hpl : p < L.length := by simpa using h1
  have hm : L[p] ∈ rowsR l := hp.mem_iff.1 (List.getElem_mem _)
  obtain ⟨i, hi, e⟩ := List.mem_map.1 hm
  have hi := List.mem_range.1 hi
  have hr := hrk p i hpl hi (by rw [at_lt hpl, e])
  have := hat i hi
  rw [hr] at this
  rw [List.getElem_map, ← e]
  show stF l.games i = _
  rw [← this]
  exact (at_lt h2).symm ▸ rfl
end Go.Proofs.YtmajlffglplcnaaDoor
