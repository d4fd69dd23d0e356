/- A part of the proof that the last text ends: what functions of the program do, told by plain data. -/
import Derived.Test.YtkanibdihhlmgaaAM
set_option linter.unusedVariables false
set_option linter.unusedSimpArgs false
namespace Go.Proofs.Ytkanibdihhlmgaa
open Go Go.E
/-! ### Less that may fail, a lesser error, a slower rise -/
theorem kth_step {L : List Int} {n k : Nat} (h : n ≤ k) (hk : k < L.length) : kth L n ≤ kth L k := by
  rw [kth_iff (by omega)]
  have := (kth_iff hk).1 (Int.le_refl (kth L k))
  omega
theorem cnt_set {t x : Int} {L : List Int} {k : Nat} (hk : k < L.length) (hx : x ≤ L[k]) : cnt t L ≤ cnt t (L.set k x) := by
  unfold cnt
  have h := List.countP_set (p := fun x : Int => decide (x ≤ t)) (a := x) hk
  rw [h]
  have h2 : 0 < L.countP (fun x : Int => decide (x ≤ t)) ∨ ¬ L[k] ≤ t := by
    by_cases h3 : L[k] ≤ t
    · exact .inl (List.countP_pos_iff.2 ⟨L[k], List.getElem_mem _, by simpa using h3⟩)
    · exact .inr h3
  by_cases h3 : L[k] ≤ t
  · have h4 : x ≤ t := by omega
    have h5 := h2.resolve_right (fun h => h h3)
    simp only [h3, h4, decide_true, if_true]
    omega
  · simp only [h3, decide_false, Bool.false_eq_true, if_false]
    omega
theorem surely_fa {l : List Sen} {vo fa fa' th rise m : Int} (hv : 1 ≤ vo) (h0 : 0 ≤ fa') (h : fa' ≤ fa) : surely l vo fa' th rise m ≤ surely l vo fa th rise m := by
  unfold surely
  by_cases h1 : vo + fa ≤ l.length
  · rw [if_pos h1, if_pos (by omega)]
    have := kth_step (L := surs th rise m l) (n := (vo + fa' - 1).toNat) (k := (vo + fa - 1).toNat) (by omega) (by rw [surs_len]; omega)
    unfold kth at this
    omega
  · rw [if_neg h1]
    split <;> omega
theorem surely_set {l : List Sen} {vo fa th rise m : Int} {k : Nat} {s : Sen} (hv : 1 ≤ vo) (hf : 0 ≤ fa) (hk : k < l.length) (h : sur th rise m s ≤ sur th rise m l[k]) : surely (l.set k s) vo fa th rise m ≤ surely l vo fa th rise m := by
  unfold surely
  rw [List.length_set]
  split
  · rename_i h1
    have e : surs th rise m (l.set k s) = (surs th rise m l).set k (sur th rise m s) := by unfold surs; rw [List.map_set]
    have hc : ∀ t, cnt t (surs th rise m l) ≤ cnt t ((surs th rise m l).set k (sur th rise m s)) := fun t => cnt_set (by rw [surs_len]; exact hk) (by unfold surs; rw [List.getElem_map]; exact h)
    have hn : (vo + fa - 1).toNat < (surs th rise m l).length := by rw [surs_len]; omega
    have hn' : (vo + fa - 1).toNat < ((surs th rise m l).set k (sur th rise m s)).length := by rw [List.length_set]; exact hn
    rw [e]
    have : kth ((surs th rise m l).set k (sur th rise m s)) (vo + fa - 1).toNat ≤ kth (surs th rise m l) (vo + fa - 1).toNat := (kth_iff hn').2 (Nat.le_trans ((kth_iff hn).1 (Int.le_refl _)) (hc _))
    unfold kth at this
    omega
  · exact Int.le_refl _
theorem sur_err {th rise m : Int} {s : Sen} {e : Int} (h0 : 0 ≤ e) (he : e ≤ s.err) (ht : 0 ≤ th) (hr : 0 ≤ rise) (hv : 1 ≤ s.every) : sur th rise m { s with err := e } ≤ sur th rise m s := by
  unfold sur
  have h1 := Int.emod_nonneg (m - s.first) (show s.every ≠ 0 by omega)
  have h2 := Int.mul_nonneg hr h1
  simp only
  split
  · exact Int.le_refl _
  · split <;> split <;> omega
theorem sur_rise {th rise rise' m : Int} {s : Sen} (hr0 : 0 ≤ rise') (hr : rise' ≤ rise) (ht : 0 ≤ th) (hv : 1 ≤ s.every) : sur th rise' m s ≤ sur th rise m s := by
  unfold sur
  have h1 := Int.emod_nonneg (m - s.first) (show s.every ≠ 0 by omega)
  have h2 := Int.mul_le_mul_of_nonneg_right hr h1
  split
  · exact Int.le_refl _
  · split <;> omega
theorem surely_rise {l : List Sen} {vo fa th rise rise' m : Int} (hr0 : 0 ≤ rise') (hr : rise' ≤ rise) (ht : 0 ≤ th) (hv : 1 ≤ vo) (hf : 0 ≤ fa) (hs : ∀ s ∈ l, SenOk s) : surely l vo fa th rise' m ≤ surely l vo fa th rise m := by
  unfold surely
  split
  · have := kth_mono (f := sur th rise' m) (g := sur th rise m) (l := l) (n := (vo + fa - 1).toNat) (fun s hs' => sur_rise hr0 hr ht (hs s hs').every.1) (by omega)
    unfold kth at this
    unfold surs
    omega
  · exact Int.le_refl _
/-- Worst of what is valid, and not too much. -/
theorem worstG_le {l l' : List Sen} {vo fa fa' th rise rise' a b : Int} (h : (worstG l vo fa th rise a b).2.2 = 0) (hv : VotOk l' vo fa') (hr : 0 ≤ rise' ∧ rise' ≤ rise)
    (hm : ∀ m, surely l' vo fa' th rise' m ≤ surely l vo fa th rise m) : (worstG l' vo fa' th rise' a b).2.2 = 0 ∧ (worstG l' vo fa' th rise' a b).1 ≤ (worstG l vo fa th rise a b).1 := by
  unfold worstG at h ⊢
  rw [if_pos (votOk_iff.2 hv)]
  by_cases h1 : votOk l vo fa = true
  · rw [if_pos h1] at h ⊢
    by_cases h2 : gas th = true ∧ gas rise = true ∧ tim a b = true
    · rw [if_pos h2] at h ⊢
      have hg := gas_iff.1 h2.2.1
      rw [if_pos ⟨h2.1, gas_iff.2 ⟨hr.1, by omega⟩, h2.2.2⟩]
      have hw := wst_mono (a := a) (b := b) hm
      have ht := tim_iff.1 h2.2.2
      have hb := (wst_b (th := th) (rise := rise) (a := a) (b := b) (votOk_iff.1 h1) (gas_iff.1 h2.1).1 hg.1 ht.2.1 ht.2.2).1.2
      unfold resG at h ⊢
      by_cases h3 : (wst (surely l vo fa th rise) a b).1 = 1048577
      · rw [if_pos h3] at h; simp at h
      · rw [if_neg h3, if_neg (by omega)]
        exact ⟨rfl, show _ - 1 ≤ _ - 1 by omega⟩
    · rw [if_neg h2] at h; simp at h
  · rw [if_neg h1] at h; simp at h
/-! ### The best number of votes -/
structure BstOk (lo la : Nat → Int) (k : Nat) (s : Int × Int × Int) : Prop where
  none : s.1 = 0 → s = (0, 0, 0) ∧ ∀ j, j < k → ¬ lo j < la j
  some : s.1 ≠ 0 → ∃ j : Nat, j < k ∧ lo j < la j ∧ s = ((j : Int) + 1, lo j, la j - 1) ∧ ∀ i, i < k → lo i < la i → la i - lo i ≤ la j - lo j ∧ (la i - lo i = la j - lo j → j ≤ i)
theorem bstN_ok {l : List Sen} {fa limit rise calm a b : Int} : ∀ k : Nat, BstOk (fun k => least l ((k : Int) + 1) fa calm) (fun k => late l ((k : Int) + 1) fa limit rise a b) k (bstN l fa limit rise calm a b k)
  | 0 => ⟨fun _ => ⟨rfl, fun j h => absurd h (Nat.not_lt_zero _)⟩, fun h => absurd rfl h⟩
  | k + 1 => by
    have ih := bstN_ok (l := l) (fa := fa) (limit := limit) (rise := rise) (calm := calm) (a := a) (b := b) k
    unfold bstN bstS
    generalize bstN l fa limit rise calm a b k = s at ih ⊢
    obtain ⟨lo, hlo⟩ : ∃ lo : Nat → Int, lo = fun k : Nat => least l ((k : Int) + 1) fa calm := ⟨_, rfl⟩
    obtain ⟨la, hla⟩ : ∃ la : Nat → Int, la = fun k : Nat => late l ((k : Int) + 1) fa limit rise a b := ⟨_, rfl⟩
    have e1 : least l ((k : Int) + 1) fa calm = lo k := by rw [hlo]
    have e2 : late l ((k : Int) + 1) fa limit rise a b = la k := by rw [hla]
    rw [← hlo, ← hla] at ih ⊢
    rw [e1, e2]
    clear e1 e2 hlo hla
    by_cases c : lo k < la k ∧ (s.1 = 0 ∨ s.2.2 - s.2.1 < la k - 1 - lo k)
    · rw [if_pos c]
      obtain ⟨c1, c2⟩ := c
      refine ⟨fun h => absurd h (by simp only; omega), fun _ => ⟨k, by omega, c1, rfl, fun i hi hli => ?_⟩⟩
      rcases Nat.lt_or_ge i k with h3 | h3
      · by_cases h0 : s.1 = 0
        · exact absurd hli ((ih.none h0).2 i h3)
        · obtain ⟨j, j1, j2, j3, j4⟩ := ih.some h0
          have h5 := j4 i h3 hli
          rw [j3] at c2 h0
          simp only at c2 h0
          omega
      · obtain rfl : i = k := by omega
        exact ⟨Int.le_refl _, fun _ => Nat.le_refl _⟩
    · rw [if_neg c]
      refine ⟨fun h0 => ⟨(ih.none h0).1, fun j hj hl => ?_⟩, fun h0 => ?_⟩
      · rcases Nat.lt_or_ge j k with h3 | h3
        · exact (ih.none h0).2 j h3 hl
        · obtain rfl : j = k := by omega
          exact c ⟨hl, .inl h0⟩
      · obtain ⟨j, j1, j2, j3, j4⟩ := ih.some h0
        refine ⟨j, by omega, j2, j3, fun i hi hli => ?_⟩
        rcases Nat.lt_or_ge i k with h3 | h3
        · exact j4 i h3 hli
        · obtain rfl : i = k := by omega
          have h5 : ¬ (s.2.2 - s.2.1 < la i - 1 - lo i) := fun h => c ⟨hli, .inr h⟩
          rw [j3] at h5
          simp only at h5
          omega
/-- What Best tells, against what Thresholds tells at each number of votes. -/
theorem best_thr {l : List Sen} {fa limit rise calm a b : Int} (h1 : votOk l 1 fa = true) (h2 : tskOk limit rise calm a b = true) :
    ((bestG l fa limit rise calm a b = (0, 0, 0, 4) ∧ ∀ i : Nat, i < l.length → thrG l ((i : Int) + 1) fa limit rise calm a b = (0, 0, 4)) ∨
    ∃ j : Nat, j < l.length ∧ (bestG l fa limit rise calm a b = ((j : Int) + 1, (thrG l ((j : Int) + 1) fa limit rise calm a b).1, (thrG l ((j : Int) + 1) fa limit rise calm a b).2.1, 0) ∧ (thrG l ((j : Int) + 1) fa limit rise calm a b).2.2 = 0) ∧
      ∀ i : Nat, i < l.length → thrG l ((i : Int) + 1) fa limit rise calm a b = (0, 0, 4) ∨ ((thrG l ((i : Int) + 1) fa limit rise calm a b).2.2 = 0 ∧
        (thrG l ((i : Int) + 1) fa limit rise calm a b).2.1 - (thrG l ((i : Int) + 1) fa limit rise calm a b).1 ≤ (thrG l ((j : Int) + 1) fa limit rise calm a b).2.1 - (thrG l ((j : Int) + 1) fa limit rise calm a b).1 ∧
        ((thrG l ((i : Int) + 1) fa limit rise calm a b).2.1 - (thrG l ((i : Int) + 1) fa limit rise calm a b).1 = (thrG l ((j : Int) + 1) fa limit rise calm a b).2.1 - (thrG l ((j : Int) + 1) fa limit rise calm a b).1 → j ≤ i))) := by
  have hv := votOk_iff.1 h1
  have ht : ∀ i : Nat, i < l.length → thrG l ((i : Int) + 1) fa limit rise calm a b = if least l ((i : Int) + 1) fa calm < late l ((i : Int) + 1) fa limit rise a b then (least l ((i : Int) + 1) fa calm, late l ((i : Int) + 1) fa limit rise a b - 1, 0) else (0, 0, 4) := fun i hi => by
    unfold thrG; rw [if_pos (votOk_iff.2 (hv.more hi)), if_pos h2]
  have hb : bestG l fa limit rise calm a b = if (bstN l fa limit rise calm a b l.length).1 = 0 then (0, 0, 0, 4) else ((bstN l fa limit rise calm a b l.length).1, (bstN l fa limit rise calm a b l.length).2.1, (bstN l fa limit rise calm a b l.length).2.2, 0) := by unfold bestG; rw [if_pos h1, if_pos h2]
  have hk := bstN_ok (l := l) (fa := fa) (limit := limit) (rise := rise) (calm := calm) (a := a) (b := b) l.length
  generalize bstN l fa limit rise calm a b l.length = s at hb hk
  by_cases h0 : s.1 = 0
  · rw [if_pos h0] at hb
    exact .inl ⟨hb, fun i hi => by rw [ht i hi, if_neg ((hk.none h0).2 i hi)]⟩
  · rw [if_neg h0] at hb
    obtain ⟨j, j1, j2, j3, j4⟩ := hk.some h0
    have tj := ht j j1
    rw [if_pos j2] at tj
    refine .inr ⟨j, j1, ⟨by rw [hb, j3, tj], by rw [tj]⟩, fun i hi => ?_⟩
    have ti := ht i hi
    by_cases hli : least l ((i : Int) + 1) fa calm < late l ((i : Int) + 1) fa limit rise a b
    · rw [if_pos hli] at ti
      have h5 := j4 i hi hli
      rw [ti, tj]
      exact .inr ⟨rfl, by simp only; omega, fun h => h5.2 (by simp only at h; omega)⟩
    · rw [if_neg hli] at ti
      exact .inl ti
theorem best_no {l : List Sen} {fa limit rise calm a b : Int} (h : ¬ (votOk l 1 fa = true ∧ tskOk limit rise calm a b = true)) : (bestG l fa limit rise calm a b).1 = 0 ∧ (bestG l fa limit rise calm a b).2.1 = 0 ∧ (bestG l fa limit rise calm a b).2.2.1 = 0 ∧ ((bestG l fa limit rise calm a b).2.2.2 = 1 ∨ (bestG l fa limit rise calm a b).2.2.2 = 2) := by
  unfold bestG
  by_cases h1 : votOk l 1 fa = true
  · rw [if_pos h1, if_neg (fun h2 => h ⟨h1, h2⟩)]; simp
  · rw [if_neg h1]; simp
end Go.Proofs.Ytkanibdihhlmgaa
