/- A part of the proof that the last text ends: what functions of the program do, told by plain data. -/
import Derived.Test.YtkanibdihhlmgaaAB
set_option linter.unusedVariables false
set_option linter.unusedSimpArgs false
namespace Go.Proofs.Ytkanibdihhlmgaa
open Go Go.E
/-! ### Sorted rows: which one is the n-th -/
abbrev cnt (t : Int) (l : List Int) : Nat := l.countP (fun x => decide (x ≤ t))
theorem cnt_none {t : Int} {l : List Int} (h : ∀ x ∈ l, t < x) : cnt t l = 0 := by
  refine List.countP_eq_zero.2 fun x hx => ?_
  have := h x hx
  simp; omega
theorem srt_le {t : Int} : ∀ {S : List Int}, Srt S → ∀ n, n < S.length → (S.getD n default ≤ t ↔ n + 1 ≤ cnt t S)
  | [], _, n, h => by simp at h
  | a :: S, hS, n, h => by
    obtain ⟨h1, h2⟩ := List.pairwise_cons.1 hS
    by_cases ha : a ≤ t
    · have hc : cnt t (a :: S) = cnt t S + 1 := by simp [cnt, ha]
      rw [hc]
      rcases n with _ | n
      · simp [ha]
      · have := srt_le (t := t) h2 n (by simpa using h)
        simp only [List.getD_cons_succ]
        omega
    · have hc : cnt t (a :: S) = 0 := cnt_none fun x hx => by
        rcases List.mem_cons.1 hx with rfl | hx
        · omega
        · have := h1 x hx; omega
      rw [hc]
      constructor
      · intro hle
        rcases n with _ | n
        · simp at hle; omega
        · simp only [List.getD_cons_succ] at hle
          simp only [List.length_cons] at h
          rw [at_lt (by omega)] at hle
          have := h1 S[n] (List.getElem_mem _)
          omega
      · omega
theorem perm_cnt {t : Int} {a b : List Int} (h : a.Perm b) : cnt t a = cnt t b := h.countP_eq _
/-- The n-th of a sorted row, told by how many are at most as much. -/
theorem kth_le {t : Int} {S L : List Int} (hS : Srt S) (hp : S.Perm L) {n : Nat} (hn : n < L.length) : S.getD n default ≤ t ↔ n + 1 ≤ cnt t L := by
  rw [srt_le hS n (by rw [hp.length_eq]; exact hn), perm_cnt hp]
theorem srt_uniq {a b : List Int} (ha : Srt a) (hb : Srt b) (h : a.Perm b) : a = b := h.eq_of_pairwise (fun x y _ _ h1 h2 => Int.le_antisymm h1 h2) ha hb
theorem min_le_same {a b c : Int} (h : ∀ t, t < c → (a ≤ t ↔ b ≤ t)) : min c a = min c b := by
  rcases Int.lt_or_le a c with h1 | h1 <;> rcases Int.lt_or_le b c with h2 | h2
  · have := (h a h1).1 (Int.le_refl _)
    have := (h b h2).2 (Int.le_refl _)
    omega
  · have := (h a h1).1 (Int.le_refl _); omega
  · have := (h b h2).2 (Int.le_refl _); omega
  · omega
/-! ### A sort by appends -/
def insA (x : Int) : List Int → List Int
  | [] => [x]
  | y :: ys => if y ≤ x then y :: insA x ys else x :: y :: ys
def lead (x : Int) : List Int → Nat
  | [] => 0
  | y :: ys => if y ≤ x then lead x ys + 1 else 0
theorem lead_le {x : Int} : ∀ l, lead x l ≤ l.length
  | [] => Nat.le_refl _
  | y :: ys => by unfold lead; split; simp [lead_le ys]; simp
theorem insA_at {x : Int} : ∀ l, insA x l = l.take (lead x l) ++ x :: l.drop (lead x l)
  | [] => rfl
  | y :: ys => by
    unfold insA lead
    split
    · simp [insA_at ys]
    · simp
theorem lead_lt {x : Int} : ∀ {l : List Int} {k : Nat}, k ≤ lead x l → (k < lead x l ↔ k < l.length ∧ l.getD k default ≤ x)
  | [], k, h => by simp [lead] at h ⊢
  | y :: ys, k, h => by
    unfold lead at h ⊢
    split
    · rename_i hy
      rw [if_pos hy] at h
      rcases k with _ | k
      · simp [hy]
      · have := lead_lt (x := x) (l := ys) (k := k) (by omega)
        simp only [List.length_cons, List.getD_cons_succ]
        omega
    · rename_i hy
      rw [if_neg hy] at h
      obtain rfl : k = 0 := by omega
      simp; omega
theorem insA_perm {x : Int} : ∀ l, (insA x l).Perm (x :: l)
  | [] => .refl _
  | y :: ys => by
    unfold insA
    split
    · exact ((insA_perm ys).cons y).trans (.swap ..)
    · exact .refl _
theorem insA_srt {x : Int} : ∀ {l : List Int}, Srt l → Srt (insA x l)
  | [], _ => by simp [insA]
  | y :: ys, h => by
    obtain ⟨h1, h2⟩ := List.pairwise_cons.1 h
    unfold insA
    split
    · rename_i hy
      refine List.pairwise_cons.2 ⟨fun z hz => ?_, insA_srt h2⟩
      rcases List.mem_cons.1 ((insA_perm ys).mem_iff.1 hz) with rfl | hz
      · exact hy
      · exact h1 z hz
    · rename_i hy
      refine List.pairwise_cons.2 ⟨fun z hz => ?_, h⟩
      rcases List.mem_cons.1 hz with rfl | hz
      · omega
      · have := h1 z hz; omega
def asortN (l : List Int) : Nat → List Int
  | 0 => []
  | k + 1 => insA (l.getD k default) (asortN l k)
def asort (l : List Int) : List Int := asortN l l.length
theorem asortN_perm {l : List Int} : ∀ k, k ≤ l.length → (asortN l k).Perm (l.take k)
  | 0, _ => by simp [asortN]
  | k + 1, h => by
    unfold asortN
    refine (insA_perm _).trans ?_
    rw [List.take_succ_eq_append_getElem (by omega), at_lt (by omega)]
    exact ((asortN_perm k (by omega)).cons _).trans (List.perm_append_singleton _ _).symm
theorem asortN_len {l : List Int} : ∀ k, (asortN l k).length = k
  | 0 => rfl
  | k + 1 => by unfold asortN; rw [(insA_perm _).length_eq, List.length_cons, asortN_len k]
theorem asortN_srt {l : List Int} : ∀ k, Srt (asortN l k)
  | 0 => by simp [asortN]
  | k + 1 => insA_srt (asortN_srt k)
theorem asort_eq {l : List Int} : asort l = isort l := by
  have h := asortN_perm (l := l) l.length (Nat.le_refl _)
  rw [List.take_length] at h
  exact srt_uniq (asortN_srt _) isort_srt (h.trans isort_perm.symm)
/-! ### The n-th with, and without, those that have not read yet -/
def kth (L : List Int) (n : Nat) : Int := (isort L).getD n default
theorem kth_iff {L : List Int} {n : Nat} (h : n < L.length) {t : Int} : kth L n ≤ t ↔ n + 1 ≤ cnt t L := kth_le isort_srt isort_perm h
/-- The rows that count: g of those that are picked; the others have the bound. -/
theorem cnt_pick {α : Type} {p : α → Bool} {g : α → Int} {c t : Int} (ht : t < c) : ∀ l : List α, cnt t (l.map fun s => if p s = true then g s else c) = cnt t ((l.filter p).map g)
  | [] => rfl
  | a :: l => by
    have ih := cnt_pick (p := p) (g := g) ht l
    cases h : p a
    · simp only [List.map_cons, h, List.filter_cons, Bool.false_eq_true, if_false, ↓reduceIte]
      rw [← ih]
      unfold cnt
      rw [List.countP_cons, if_neg (by simp; omega), Nat.add_zero]
    · simp only [List.map_cons, h, List.filter_cons, if_true, ↓reduceIte]
      unfold cnt at ih ⊢
      rw [List.countP_cons, List.countP_cons, ih]
theorem kth_pick {α : Type} {p : α → Bool} {g : α → Int} {c : Int} {l : List α} {n : Nat} (hn : n < l.length) : min c (kth (l.map fun s => if p s = true then g s else c) n) = min c (if n < (l.filter p).length then kth ((l.filter p).map g) n else c) := by
  refine min_le_same fun t ht => ?_
  rw [kth_iff (by rw [List.length_map]; exact hn), cnt_pick ht]
  split
  · rename_i h
    rw [kth_iff (by rw [List.length_map]; exact h)]
  · rename_i h
    have : cnt t ((l.filter p).map g) ≤ (l.filter p).length := by
      have := List.countP_le_length (p := fun x : Int => decide (x ≤ t)) (l := (l.filter p).map g)
      rwa [List.length_map] at this
    omega
end Go.Proofs.Ytkanibdihhlmgaa
