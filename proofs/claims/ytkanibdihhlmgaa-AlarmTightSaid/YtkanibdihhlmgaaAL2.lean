/- A part of the proof that the last text ends: what functions of the program do, told by plain data. -/
import Derived.Test.YtkanibdihhlmgaaAG
set_option linter.unusedVariables false
set_option linter.unusedSimpArgs false
namespace Go.Proofs.Ytkanibdihhlmgaa
open Go Go.E
/-! ### Searches by halves, told by what they find -/
theorem srch_spec {p : Nat → Bool} {n : Nat} (hm : ∀ i j, i ≤ j → j < n → p i = true → p j = true) : ∀ k i j, i ≤ j → j ≤ n → j - i < 2 ^ k → (∀ h, h < i → p h = false) → (∀ h, j ≤ h → h < n → p h = true) →
    (i ≤ srch p k i j ∧ srch p k i j ≤ j) ∧ (∀ h, h < srch p k i j → p h = false) ∧ (∀ h, srch p k i j ≤ h → h < n → p h = true)
  | 0, i, j, h1, h2, h3, h4, h5 => by
    simp at h3
    obtain rfl : i = j := by omega
    exact ⟨⟨Nat.le_refl _, Nat.le_refl _⟩, h4, h5⟩
  | k + 1, i, j, h1, h2, h3, h4, h5 => by
    rw [Nat.pow_succ] at h3
    unfold srch
    by_cases hlt : i < j
    · rw [if_pos hlt]
      by_cases hp : p ((i + j) / 2) = true
      · rw [if_pos hp]
        have := srch_spec hm k i ((i + j) / 2) (by omega) (by omega) (by omega) h4 (fun h ha hb => hm _ _ ha hb hp)
        exact ⟨⟨this.1.1, by omega⟩, this.2⟩
      · rw [if_neg hp]
        have := srch_spec hm k ((i + j) / 2 + 1) j (by omega) (by omega) (by omega) (fun h hh => by
          cases hph : p h
          · rfl
          · exact absurd (hm h ((i + j) / 2) (by omega) (by omega) hph) hp) h5
        exact ⟨⟨by omega, this.1.2⟩, this.2⟩
    · rw [if_neg hlt]
      obtain rfl : i = j := by omega
      exact ⟨⟨Nat.le_refl _, Nat.le_refl _⟩, h4, h5⟩
theorem srch_lt {p : Nat → Bool} {n : Nat} (hm : ∀ i j, i ≤ j → j < n → p i = true → p j = true) (hn : n < 2 ^ 32) {h : Nat} (hh : h < n) : p h = false ↔ h < srch p 32 0 n := by
  obtain ⟨h1, h2, h3⟩ := srch_spec hm 32 0 n (Nat.zero_le _) (Nat.le_refl _) (by omega) (fun h hh => absurd hh (Nat.not_lt_zero _)) (fun h h1 h2 => absurd h2 (by omega))
  constructor
  · intro hp
    rcases Nat.lt_or_ge h (srch p 32 0 n) with h4 | h4
    · exact h4
    · rw [h3 h h4 hh] at hp; cases hp
  · exact h2 h
/-! ### Quiet: those that say yes at calm are counted -/
abbrev loud (th calm : Int) (l : List Sen) : Nat := l.countP (fun s => decide (th ≤ calm + s.err))
theorem srchI_cnt {S : List Int} {x : Int} (hS : Srt S) (hl : S.length < 2 ^ 32) : (S.length : Int) - srchI S x = (S.countP (fun y => decide (x ≤ y)) : Nat) := by
  have hm : ∀ i j, i ≤ j → j < S.length → (fun h => decide (x ≤ S.getD h default)) i = true → (fun h => decide (x ≤ S.getD h default)) j = true := fun i j h1 h2 h3 => by
    simp only [decide_eq_true_eq] at h3 ⊢
    rcases Nat.lt_or_ge i j with h4 | h4
    · have := List.pairwise_iff_getElem.1 hS i j (by omega) h2 h4
      rw [at_lt (by omega)] at h3 ⊢
      omega
    · obtain rfl : i = j := by omega
      exact h3
  obtain ⟨⟨_, h1⟩, h2, h3⟩ := srch_spec hm 32 0 S.length (Nat.zero_le _) (Nat.le_refl _) (by omega) (fun h hh => absurd hh (Nat.not_lt_zero _)) (fun h h1 h2 => absurd h2 (by omega))
  unfold srchI
  generalize srch (fun h => decide (x ≤ S.getD h default)) 32 0 S.length = r at h1 h2 h3 ⊢
  have e : S.countP (fun y => decide (x ≤ y)) = (S.take r).countP (fun y => decide (x ≤ y)) + (S.drop r).countP (fun y => decide (x ≤ y)) := by rw [← List.countP_append, List.take_append_drop]
  have e1 : (S.take r).countP (fun y => decide (x ≤ y)) = 0 := List.countP_eq_zero.2 fun y hy => by
    obtain ⟨k, hk, rfl⟩ := List.getElem_of_mem hy
    rw [List.length_take] at hk
    have := h2 k (by omega)
    rw [List.getElem_take]
    rw [at_lt (by omega)] at this
    simpa using this
  have e2 : (S.drop r).countP (fun y => decide (x ≤ y)) = S.length - r := by
    have : (S.drop r).countP (fun y => decide (x ≤ y)) = (S.drop r).length := List.countP_eq_length.2 fun y hy => by
      obtain ⟨k, hk, rfl⟩ := List.getElem_of_mem hy
      rw [List.length_drop] at hk
      have := h3 (r + k) (by omega) (by omega)
      rw [List.getElem_drop]
      rw [at_lt (by omega)] at this
      simpa using this
    rw [this, List.length_drop]
  rw [e, e1, e2]; omega
theorem qui_loud {l : List Sen} {vo fa th calm : Int} (hl : l.length < 2 ^ 32) : qui l vo fa th calm = decide (fa + (loud th calm l : Int) < vo) := by
  unfold qui
  have h1 := srchI_cnt (S := isort (errs l)) (x := th - calm) isort_srt (by rw [isort_len, errs_len]; exact hl)
  rw [isort_len, errs_len] at h1
  rw [h1, isort_perm.countP_eq, errs, List.countP_map]
  have h2 : ((fun y => decide (th - calm ≤ y)) ∘ Sen.err) = fun s : Sen => decide (th ≤ calm + s.err) := by
    funext s
    simp only [Function.comp, decide_eq_decide]; omega
  rw [h2, Int.add_comm]
theorem loud_snoc {th calm : Int} {l : List Sen} {i : Nat} (h : i < l.length) : loud th calm (l.take (i + 1)) = loud th calm (l.take i) + if th ≤ calm + (l.getD i default).err then 1 else 0 := by
  rw [List.take_succ_eq_append_getElem h, loud, loud, List.countP_append, ← at_lt h]
  simp [List.countP_cons]
/-! ### What grows when the numbers do -/
theorem cnt_map_le {α : Type} {f g : α → Int} {t : Int} : ∀ {l : List α}, (∀ s ∈ l, f s ≤ g s) → cnt t (l.map g) ≤ cnt t (l.map f)
  | [], _ => Nat.le_refl _
  | a :: l, h => by
    have ih := cnt_map_le (t := t) (l := l) fun s hs => h s (List.mem_cons_of_mem _ hs)
    have ha := h a List.mem_cons_self
    unfold cnt at ih ⊢
    rw [List.map_cons, List.map_cons, List.countP_cons, List.countP_cons]
    split <;> split <;> simp_all <;> omega
theorem kth_mono {α : Type} {f g : α → Int} {l : List α} {n : Nat} (h : ∀ s ∈ l, f s ≤ g s) (hn : n < l.length) : kth (l.map f) n ≤ kth (l.map g) n := by
  rw [kth_iff (by rw [List.length_map]; exact hn)]
  exact Nat.le_trans ((kth_iff (L := l.map g) (n := n) (by rw [List.length_map]; exact hn)).1 (Int.le_refl _)) (cnt_map_le h)
theorem sur_th {th th' rise m : Int} {s : Sen} (h0 : 0 ≤ th) (h : th ≤ th') (hr : 0 ≤ rise) (hs : 0 ≤ s.err ∧ 1 ≤ s.every) : sur th rise m s ≤ sur th' rise m s := by
  unfold sur
  have h1 := Int.emod_nonneg (m - s.first) (show s.every ≠ 0 by omega)
  have h2 := Int.mul_nonneg hr h1
  split
  · exact Int.le_refl _
  · split <;> split <;> omega
theorem surely_th {l : List Sen} {vo fa th th' rise m : Int} (h0 : 0 ≤ th) (h : th ≤ th') (hr : 0 ≤ rise) (hv : 1 ≤ vo) (hf : 0 ≤ fa) (hs : ∀ s ∈ l, SenOk s) : surely l vo fa th rise m ≤ surely l vo fa th' rise m := by
  unfold surely
  split
  · have := kth_mono (f := sur th rise m) (g := sur th' rise m) (l := l) (n := (vo + fa - 1).toNat) (fun s hs' => sur_th h0 h hr ⟨(hs s hs').err.1, (hs s hs').every.1⟩) (by omega)
    unfold kth at this
    unfold surs
    omega
  · exact Int.le_refl _
theorem wsk_mono {f g : Int → Int} (h : ∀ m, f m ≤ g m) : ∀ (k : Nat) m mo mo' w w', mo ≤ mo' → (wsk f k m mo w).1 ≤ (wsk g k m mo' w').1
  | 0, _, _, _, _, _, hm => hm
  | k + 1, m, mo, mo', w, w', hm => by
    unfold wsk
    have := h m
    split <;> split <;> exact wsk_mono h k (m + 1) _ _ _ _ (by omega)
theorem wst_mono {f g : Int → Int} (h : ∀ m, f m ≤ g m) {a b : Int} : (wst f a b).1 ≤ (wst g a b).1 := wsk_mono h _ _ _ _ _ _ (Int.le_refl _)
theorem late_lt {l : List Sen} {vo fa limit rise a b : Int} (hv : VotOk l vo fa) (hr : 0 ≤ rise) {n : Nat} (hn : n < 1048577) : limit < (wst (surely l vo fa n rise) a b).1 ↔ ¬ (n : Int) < late l vo fa limit rise a b := by
  have := srch_lt (p := fun n : Nat => decide (limit < (wst (surely l vo fa n rise) a b).1)) (n := 1048577) (fun i j h1 h2 h3 => by
    simp only [decide_eq_true_eq] at h3 ⊢
    exact Int.lt_of_lt_of_le h3 (wst_mono fun m => surely_th (by omega) (by omega) hr hv.vo.1 hv.fa.1 hv.sen)) (by decide) hn
  unfold late
  generalize srch (fun n : Nat => decide (limit < (wst (surely l vo fa n rise) a b).1)) 32 0 1048577 = r at this ⊢
  simp only [decide_eq_false_iff_not] at this
  omega
/-! ### The document's answer to 'soon enough' -/
theorem soon_same {f g : Int → Int} {limit : Int} (hf : ∀ m, f m = min 1048577 (g m)) (h0 : ∀ m, 0 ≤ g m) {a b : Int} (hab : a ≤ b) (hl : limit ≤ 1048576) : ((wsR g a b).2.2 && decide ((wsR g a b).1 < limit)) = !decide (limit < (wst f a b).1) := by
  have h := wst_same hf h0 hab
  unfold resG resR at h
  have hb := (wsk_bd (f := f) (lo := a) (hi := 1048577) (a := a) (b := b) (fun m => by rw [hf m]; omega) (b + 1 - a).toNat a (-1) a ⟨by omega, by omega⟩ (Int.le_refl _) (by omega)).1.2
  cases h3 : (wsR g a b).2.2
  · rw [h3] at h
    simp only [Bool.false_and, Bool.false_eq_true, if_false] at h ⊢
    split at h
    · rename_i h4; rw [h4]; simp; omega
    · simp at h
  · rw [h3] at h
    simp only [Bool.true_and, if_true] at h ⊢
    split at h
    · simp at h
    · simp only [Prod.mk.injEq] at h
      rw [← h.1, Bool.eq_iff_iff]; simp; omega
end Go.Proofs.Ytkanibdihhlmgaa
