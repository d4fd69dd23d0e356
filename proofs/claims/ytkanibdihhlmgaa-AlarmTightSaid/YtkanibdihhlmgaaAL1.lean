/- A part of the proof that the last text ends: what functions of the program do, told by plain data. -/
import Derived.Test.YtkanibdihhlmgaaAL0
set_option linter.unusedVariables false
set_option linter.unusedSimpArgs false
namespace Go.Proofs.Ytkanibdihhlmgaa
open Go Go.E
/-! ### The worst minute -/
def sur (th rise m : Int) (s : Sen) : Int := if m < s.first then 1048577 else if th = 0 ∧ s.err = 0 then 0 else th + s.err + rise * ((m - s.first) % s.every)
def surs (th rise m : Int) (l : List Sen) : List Int := l.map (sur th rise m)
theorem surs_len {th rise m : Int} {l : List Sen} : (surs th rise m l).length = l.length := List.length_map ..
def surely (l : List Sen) (vo fa th rise m : Int) : Int := if vo + fa ≤ l.length then min 1048577 ((isort (surs th rise m l)).getD (vo + fa - 1).toNat default) else 1048577
def wsk (f : Int → Int) : Nat → Int → Int → Int → Int × Int
  | 0, _, most, wh => (most, wh)
  | k + 1, m, most, wh => if most < f m then wsk f k (m + 1) (f m) m else wsk f k (m + 1) most wh
def wst (f : Int → Int) (a b : Int) : Int × Int := wsk f (b + 1 - a).toNat a (-1) 0
def wsr (g : Int → Int) : Nat → Int → Int → Int → Int × Int × Bool
  | 0, _, most, wh => (most, wh, true)
  | k + 1, m, most, wh => if 1048576 ≤ g m - 1 then (0, 0, false) else if most < g m - 1 then wsr g k (m + 1) (g m - 1) m else wsr g k (m + 1) most wh
def wsR (g : Int → Int) (a b : Int) : Int × Int × Bool := wsr g (b + 1 - a).toNat a (-2) a
theorem wsk_top {f : Int → Int} (hf : ∀ m, f m ≤ 1048577) {w : Int} : ∀ k m, wsk f k m 1048577 w = (1048577, w)
  | 0, _ => rfl
  | k + 1, m => by
    unfold wsk
    rw [if_neg (by have := hf m; omega), wsk_top hf k]
def resG (r : Int × Int) : Int × Int × Int := if r.1 = 1048577 then (0, 0, 4) else (r.1 - 1, r.2, 0)
def resR (r : Int × Int × Bool) : Int × Int × Int := if r.2.2 = true then (r.1, r.2.1, 0) else (0, 0, 4)
theorem ws_same {f g : Int → Int} (hf : ∀ m, f m = min 1048577 (g m)) : ∀ k m most w, most < 1048577 → resG (wsk f k m most w) = resR (wsr g k m (most - 1) w)
  | 0, m, most, w, h => by
    have : most ≠ 1048577 := by omega
    simp [wsk, wsr, resG, resR, this]
  | k + 1, m, most, w, h => by
    unfold wsk wsr
    have hm := hf m
    by_cases h1 : 1048576 ≤ g m - 1
    · rw [if_pos h1, if_pos (by omega), show f m = 1048577 by omega, wsk_top (fun m => by rw [hf m]; omega)]
      rfl
    · rw [if_neg h1, show f m = g m by omega]
      by_cases h2 : most < g m
      · rw [if_pos h2, if_pos (by omega), ws_same hf k (m + 1) (g m) m (by omega)]
      · rw [if_neg h2, if_neg (by omega), ws_same hf k (m + 1) most w h]
theorem wst_same {f g : Int → Int} (hf : ∀ m, f m = min 1048577 (g m)) (h0 : ∀ m, 0 ≤ g m) {a b : Int} (hab : a ≤ b) : resG (wst f a b) = resR (wsR g a b) := by
  unfold wst wsR
  obtain ⟨k, hk⟩ : ∃ k, (b + 1 - a).toNat = k + 1 := ⟨(b + 1 - a).toNat - 1, by omega⟩
  rw [hk]
  have hm := hf a
  have := h0 a
  rw [show wsk f (k + 1) a (-1) 0 = wsk f (k + 1) a (-1) a by unfold wsk; rw [if_pos (by omega), if_pos (by omega)]]
  exact ws_same hf (k + 1) a (-1) a (by omega)
theorem wsk_bd {f : Int → Int} {lo hi a b : Int} (hf : ∀ m, f m ≤ hi) : ∀ (k : Nat) m most w, (-1 ≤ most ∧ most ≤ hi) ∧ (lo ≤ w ∧ w ≤ b) → lo ≤ m → m + k ≤ b + 1 → (-1 ≤ (wsk f k m most w).1 ∧ (wsk f k m most w).1 ≤ hi) ∧ (lo ≤ (wsk f k m most w).2 ∧ (wsk f k m most w).2 ≤ b)
  | 0, m, most, w, h, _, _ => h
  | k + 1, m, most, w, h, h1, h2 => by
    unfold wsk
    have := hf m
    split
    · exact wsk_bd (a := a) hf k (m + 1) (f m) m ⟨⟨by omega, by omega⟩, by omega, by omega⟩ (by omega) (by omega)
    · exact wsk_bd (a := a) hf k (m + 1) most w h (by omega) (by omega)
/-- The document's way: readings alone. -/
def has (m : Int) (s : Sen) : Bool := !decide (m < s.first)
def val (th rise m : Int) (s : Sen) : Int := if th + s.err = 0 then 0 else th + s.err + rise * ((m - s.first) % s.every)
def vals (th rise m : Int) (l : List Sen) : List Int := (l.filter (has m)).map (val th rise m)
def atR (l : List Sen) (vo fa th rise m : Int) : Int := if ((vals th rise m l).length : Int) < vo + fa then 1048577 else (asort (vals th rise m l)).getD (vo + fa - 1).toNat default
theorem surs_vals {l : List Sen} {th rise m : Int} (ht : 0 ≤ th) (he : ∀ s ∈ l, 0 ≤ s.err) : surs th rise m l = l.map fun s => if has m s = true then val th rise m s else 1048577 := by
  unfold surs
  refine List.map_congr_left fun s hs => ?_
  have := he s hs
  unfold sur val has
  by_cases h1 : m < s.first
  · simp [h1]
  · by_cases h2 : th = 0 ∧ s.err = 0
    · simp [h1, h2]
    · have h3 : ¬ th + s.err = 0 := by omega
      simp [h1, h2, h3]
theorem surely_at {l : List Sen} {vo fa th rise m : Int} (hv : 1 ≤ vo) (hf : 0 ≤ fa) (ht : 0 ≤ th) (he : ∀ s ∈ l, 0 ≤ s.err) : surely l vo fa th rise m = min 1048577 (atR l vo fa th rise m) := by
  unfold surely atR
  rw [surs_vals ht he, asort_eq]
  by_cases h : vo + fa ≤ l.length
  · rw [if_pos h]
    have := kth_pick (p := has m) (g := val th rise m) (c := 1048577) (l := l) (n := (vo + fa - 1).toNat) (by omega)
    unfold kth at this
    rw [this]
    have hl : (vals th rise m l).length = (l.filter (has m)).length := by simp [vals]
    by_cases h2 : (vo + fa - 1).toNat < (l.filter (has m)).length
    · rw [if_pos h2, if_neg (by omega)]; rfl
    · rw [if_neg h2, if_pos (by omega)]
  · rw [if_neg h]
    have hl : (vals th rise m l).length ≤ l.length := by
      simp only [vals, List.length_map]; exact List.length_filter_le _ _
    rw [if_pos (by omega)]; rfl
theorem val_pos {th rise m : Int} {s : Sen} (ht : 0 ≤ th) (hr : 0 ≤ rise) (he : 0 ≤ s.err) (hv : 1 ≤ s.every) : 0 ≤ val th rise m s := by
  unfold val
  have h1 := Int.emod_nonneg (m - s.first) (show s.every ≠ 0 by omega)
  have h2 := Int.mul_nonneg hr h1
  split <;> omega
theorem atR_pos {l : List Sen} {vo fa th rise m : Int} (ht : 0 ≤ th) (hr : 0 ≤ rise) (he : ∀ s ∈ l, 0 ≤ s.err ∧ 1 ≤ s.every) : 0 ≤ atR l vo fa th rise m := by
  unfold atR
  split
  · omega
  · rename_i h
    rw [asort_eq]
    by_cases h2 : (vo + fa - 1).toNat < (isort (vals th rise m l)).length
    · rw [at_lt h2]
      have h3 := isort_perm.mem_iff.1 (List.getElem_mem h2)
      unfold vals at h3
      obtain ⟨s, hs, h4⟩ := List.mem_map.1 h3
      have h5 := he s (List.mem_filter.1 hs).1
      have h6 := val_pos (m := m) ht hr h5.1 h5.2
      simp only [vals] at h4 ⊢
      rw [h4] at h6
      exact h6
    · rw [List.getD_eq_getElem?_getD, List.getElem?_eq_none (by omega)]; exact Int.le_refl _
end Go.Proofs.Ytkanibdihhlmgaa
