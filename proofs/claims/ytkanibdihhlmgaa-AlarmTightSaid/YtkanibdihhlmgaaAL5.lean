/- A part of the proof that the last text ends: what functions of the program do, told by plain data. -/
import Derived.Test.YtkanibdihhlmgaaAQ
import Derived.Test.YtkanibdihhlmgaaAL2
set_option linter.unusedVariables false
set_option linter.unusedSimpArgs false
namespace Go.Proofs.Ytkanibdihhlmgaa
open Go Go.E
set_option maxRecDepth 100000
set_option maxHeartbeats 1600000
/-! ### Readings minute by minute -/
structure Rd where
  n : Nat
  due : Nat → Nat → Bool
  tell : Nat → Nat → Int
def Rd.part (R : Rd) (m : Nat) : Nat → List Snf
  | 0 => []
  | i + 1 => R.part m i ++ (if R.due i m = true then [⟨m, i, R.tell i m⟩] else [])
def Rd.blk (R : Rd) (m : Nat) : List Snf := R.part m R.n
def Rd.all (R : Rd) : Nat → List Snf
  | 0 => []
  | m + 1 => R.all m ++ R.blk m
def foldS (th : Int) (B : List Snf) (S : List Bool) : List Bool := B.foldl (fun S x => stepS th x S) S
def Rd.st (R : Rd) (th : Int) : Nat → List Bool
  | 0 => noS R.n
  | m + 1 => foldS th (R.blk m) (R.st th m)
theorem foldS_len {th : Int} : ∀ {B : List Snf} {S : List Bool}, (foldS th B S).length = S.length
  | [], S => rfl
  | x :: B, S => by
    show (foldS th B (stepS th x S)).length = _
    rw [foldS_len, stepS_len]
theorem foldS_app {th : Int} {A B : List Snf} {S : List Bool} : foldS th (A ++ B) S = foldS th B (foldS th A S) := List.foldl_append
theorem Rd.st_len {R : Rd} {th : Int} : ∀ m, (R.st th m).length = R.n
  | 0 => noS_len
  | m + 1 => by rw [Rd.st, foldS_len, Rd.st_len m]
theorem Rd.part_mem {R : Rd} {m : Nat} {x : Snf} : ∀ i, x ∈ R.part m i → x.minute = m ∧ 0 ≤ x.sensor ∧ x.sensor < i
  | 0, h => by simp [Rd.part] at h
  | i + 1, h => by
    rw [Rd.part, List.mem_append] at h
    rcases h with h | h
    · have := Rd.part_mem i h; omega
    · split at h
      · simp only [List.mem_singleton] at h
        subst h
        exact ⟨rfl, Int.natCast_nonneg _, by show (i : Int) < ((i + 1 : Nat) : Int); omega⟩
      · simp at h
theorem Rd.blk_mem {R : Rd} {m : Nat} {x : Snf} (h : x ∈ R.blk m) : x.minute = m ∧ 0 ≤ x.sensor ∧ x.sensor < R.n := Rd.part_mem _ h
theorem Rd.all_mem {R : Rd} {x : Snf} : ∀ M, x ∈ R.all M → (0 ≤ x.minute ∧ x.minute < M) ∧ 0 ≤ x.sensor ∧ x.sensor < R.n
  | 0, h => by simp [Rd.all] at h
  | M + 1, h => by
    rw [Rd.all, List.mem_append] at h
    rcases h with h | h
    · have := Rd.all_mem M h; omega
    · have := Rd.blk_mem h; omega
theorem Rd.part_len {R : Rd} {m : Nat} : ∀ i, (R.part m i).length ≤ i
  | 0 => by simp [Rd.part]
  | i + 1 => by
    have := Rd.part_len (R := R) (m := m) i
    rw [Rd.part, List.length_append]
    split <;> simp <;> omega
theorem Rd.all_len {R : Rd} : ∀ M, (R.all M).length ≤ M * R.n
  | 0 => by simp [Rd.all]
  | M + 1 => by
    have := Rd.all_len (R := R) M
    have h2 := Rd.part_len (R := R) (m := M) R.n
    rw [Rd.all, List.length_append, Nat.succ_mul]
    unfold Rd.blk; omega
theorem Rd.split {R : Rd} {m : Nat} : ∀ k, ∃ rest, R.all (m + k) = R.all m ++ rest ∧ ∀ x ∈ rest, (m : Int) ≤ x.minute
  | 0 => ⟨[], by simp, by simp⟩
  | k + 1 => by
    obtain ⟨r, h1, h2⟩ := Rd.split (R := R) (m := m) k
    refine ⟨r ++ R.blk (m + k), by rw [← Nat.add_assoc, Rd.all, h1, List.append_assoc], fun x hx => ?_⟩
    rcases List.mem_append.1 hx with h | h
    · exact h2 x h
    · have := Rd.blk_mem h; omega
theorem Rd.sorted {R : Rd} : ∀ M, (R.all M).Pairwise (fun a b => a.minute ≤ b.minute)
  | 0 => List.Pairwise.nil
  | M + 1 => by
    rw [Rd.all, List.pairwise_append]
    refine ⟨Rd.sorted M, ?_, fun a ha b hb => ?_⟩
    · rw [List.pairwise_iff_getElem]
      intro i j hi hj _
      have h1 := Rd.blk_mem (List.getElem_mem hi)
      have h2 := Rd.blk_mem (List.getElem_mem hj)
      omega
    · have h1 := Rd.all_mem M ha
      have h2 := Rd.blk_mem hb
      omega
theorem snf_at {l : List Snf} {i : Nat} (h : i < l.length) : l.getD i default = l[i] := by simp [List.getD, List.getElem?_eq_getElem h]
theorem Rd.ok {R : Rd} {M : Nat} (hM : M ≤ 1048577) : SnfOk R.n (R.all M) := by
  refine ⟨fun i hi => ?_, fun i hi => ?_, fun i h0 hi => ?_⟩
  · have := Rd.all_mem M (List.getElem_mem hi)
    rw [snf_at hi]; omega
  · have := Rd.all_mem M (List.getElem_mem hi)
    rw [snf_at hi]; omega
  · have := List.pairwise_iff_getElem.1 (Rd.sorted (R := R) M) (i - 1) i (by omega) hi (by omega)
    rw [snf_at hi, snf_at (show i - 1 < _ by omega)]; exact this
theorem Grp.all {l : Nat} {vo th : Int} {sn : List Snf} {i : Nat} {B : List Snf} {W : Int × Int} {S : List Bool} (hs : Same sn i B.length) (hB : ∀ j, j < B.length → sn.getD (i + j) default = B.getD j default) (h : Grp l vo th sn i B.length W 0 S) : ∀ j, j ≤ B.length → Grp l vo th sn i B.length W j (foldS th (B.take j) S)
  | 0, _ => by simpa [foldS] using h
  | j + 1, hj => by
    have h1 := (Grp.all hs hB h j (by omega)).step hs (by omega)
    rw [hB j (by omega)] at h1
    rw [List.take_succ_eq_append_getElem (by omega), foldS_app, ← snf_at (by omega)]
    exact h1
/-- The first minute in which there are votes enough. -/
def fstM (vo : Int) (Y : Nat → Int) : Nat → Nat → Int × Int
  | 0, _ => (0, 4)
  | k + 1, m => if vo ≤ Y (m + 1) then (m, 0) else fstM vo Y k (m + 1)
theorem getD_app2 {a b : List Snf} {j : Nat} : (a ++ b).getD (a.length + j) default = b.getD j default := by
  simp [List.getD, List.getElem?_append_right]
theorem getD_app1 {a b : List Snf} {j : Nat} (h : j < a.length) : (a ++ b).getD j default = a.getD j default := by
  simp [List.getD, List.getElem?_append_left h]
theorem Rd.run {R : Rd} {th vo : Int} {M : Nat} : ∀ k m, m + k = M → yess (R.st th m) < vo → almN vo th (R.all M) ((R.all M).length - (R.all m).length) (R.all m).length (R.st th m) = fstM vo (fun m => yess (R.st th m)) k m
  | 0, m, h, _ => by
    subst h
    rw [Nat.add_zero, Nat.sub_self]; rfl
  | k + 1, m, h, hy => by
    have ih := Rd.run (R := R) (th := th) (vo := vo) (M := M) k (m + 1) (by omega)
    obtain ⟨rest, h1, h2⟩ := Rd.split (R := R) (m := m + 1) k
    rw [show m + 1 + k = M by omega, Rd.all, List.append_assoc] at h1
    have hst : R.st th (m + 1) = foldS th (R.blk m) (R.st th m) := rfl
    have hal : R.all (m + 1) = R.all m ++ R.blk m := rfl
    unfold fstM
    by_cases h0 : R.blk m = []
    · rw [h0] at hst
      have hst : R.st th (m + 1) = R.st th m := hst
      rw [hst, hal, h0, List.append_nil] at ih
      rw [hst, if_neg (by omega)]
      exact ih hy
    · have hl0 : 1 ≤ (R.blk m).length := by
        cases hb : R.blk m with
        | nil => exact absurd hb h0
        | cons x l => simp
      have hgB : ∀ j, j < (R.blk m).length → (R.all M).getD ((R.all m).length + j) default = (R.blk m).getD j default := fun j hj => by
        rw [h1, getD_app2, getD_app1 hj]
      have hlen : (R.all M).length = (R.all m).length + ((R.blk m).length + rest.length) := by rw [h1, List.length_append, List.length_append]
      have hmin : ∀ j, j < (R.blk m).length → ((R.all M).getD ((R.all m).length + j) default).minute = m := fun j hj => by
        rw [hgB j hj, snf_at hj]; exact (Rd.blk_mem (List.getElem_mem hj)).1
      have hm0 : ((R.all M).getD (R.all m).length default).minute = m := hmin 0 hl0
      have hs : Same (R.all M) (R.all m).length (R.blk m).length := by
        refine ⟨hl0, by omega, fun j hj => by rw [hmin j hj, hm0], ?_⟩
        rcases Nat.eq_zero_or_pos rest.length with hr | hr
        · left; omega
        · right
          rw [hm0, h1, getD_app2]
          have := getD_app2 (a := R.blk m) (b := rest) (j := 0)
          rw [Nat.add_zero] at this
          rw [this, snf_at hr]
          have := h2 _ (List.getElem_mem hr)
          omega
      have hg := Grp.all (l := R.n) (vo := vo) (th := th) (S := R.st th m) (W := almN vo th (R.all M) ((R.all M).length - (R.all m).length) (R.all m).length (R.st th m)) hs hgB ⟨Rd.st_len m, by rw [if_pos (by omega)]; rfl⟩ _ (Nat.le_refl _)
      rw [List.take_length, ← hst] at hg
      have hg := hg.2
      rw [if_neg (Nat.lt_irrefl _)] at hg
      by_cases hv : vo ≤ yess (R.st th (m + 1))
      · rw [if_pos hv] at hg
        rw [if_pos hv, hg, hm0]
      · rw [if_neg hv] at hg
        rw [if_neg hv, ← hg, ← ih (by omega)]
        rw [hal, List.length_append]
theorem Rd.alarm {R : Rd} {l : List Sen} {vo fa th : Int} {M : Nat} (hv : VotOk l vo fa) (ht : 0 ≤ th ∧ th ≤ 1048576) (hn : R.n = l.length) (hM : M ≤ 85) : alarmG l vo fa th (R.all M) = fstM vo (fun m => yess (R.st th m)) M 0 := by
  have hl := hv.len
  have h1 := Rd.all_len (R := R) M
  have h2 : M * R.n ≤ 85 * 12 := Nat.mul_le_mul hM (by omega)
  have hy : yess (R.st th 0) < vo := by
    have : yess (R.st th 0) = 0 := by
      show yess (noS R.n) = 0
      unfold yess noS
      rw [List.countP_replicate]; rfl
    have := hv.vo
    omega
  unfold alarmG
  rw [if_pos (votOk_iff.2 hv), if_pos (show gas th = true from inB_iff.2 ht), if_pos (by omega), if_pos (chk_iff.2 (by rw [← hn]; exact Rd.ok (by omega)))]
  have := Rd.run (R := R) (th := th) (vo := vo) (M := M) M 0 (by omega) hy
  rw [← hn]
  exact this
theorem fstM_hit {vo : Int} {Y : Nat → Int} : ∀ k m0 m, m0 ≤ m → m < m0 + k → vo ≤ Y (m + 1) → (fstM vo Y k m0).2 = 0 ∧ (fstM vo Y k m0).1 ≤ m
  | 0, m0, m, h1, h2, _ => by omega
  | k + 1, m0, m, h1, h2, h3 => by
    unfold fstM
    split
    · exact ⟨rfl, by simp only; omega⟩
    · rename_i h4
      rcases Nat.lt_or_ge m0 m with h5 | h5
      · exact fstM_hit k (m0 + 1) m h5 (by omega) h3
      · rw [show m0 = m by omega] at h4
        exact absurd h3 h4
theorem fstM_none {vo : Int} {Y : Nat → Int} : ∀ k m0, (∀ m, m0 ≤ m → m < m0 + k → Y (m + 1) < vo) → fstM vo Y k m0 = (0, 4)
  | 0, m0, _ => rfl
  | k + 1, m0, h => by
    unfold fstM
    rw [if_neg (by have := h m0 (by omega) (by omega); omega)]
    exact fstM_none k (m0 + 1) fun m a b => h m (by omega) (by omega)
theorem fstM_two {vo : Int} {Y : Nat → Int} : ∀ k m0, (fstM vo Y k m0).2 = 0 ∨ (fstM vo Y k m0).2 = 4
  | 0, m0 => .inr rfl
  | k + 1, m0 => by
    unfold fstM
    split
    · exact .inl rfl
    · exact fstM_two k (m0 + 1)
theorem fstM_bd {vo : Int} {Y : Nat → Int} : ∀ k m0, 0 ≤ (fstM vo Y k m0).1 ∧ (fstM vo Y k m0).1 ≤ m0 + k
  | 0, m0 => by unfold fstM; simp only; omega
  | k + 1, m0 => by
    have := fstM_bd (vo := vo) (Y := Y) k (m0 + 1)
    unfold fstM
    split
    · simp only; omega
    · omega
/-! ### What a sensor says last -/
theorem Rd.part_at {R : Rd} {th : Int} {m i : Nat} {S : List Bool} (hS : S.length = R.n) : ∀ k, k ≤ R.n → (foldS th (R.part m k) S).getD i false = if i < k ∧ R.due i m = true then decide (th ≤ R.tell i m) else S.getD i false
  | 0, _ => by simp [Rd.part, foldS]
  | k + 1, hk => by
    have ih := Rd.part_at (R := R) (th := th) (m := m) (i := i) hS k (by omega)
    rw [Rd.part, foldS_app]
    have hl : (foldS th (R.part m k) S).length = R.n := by rw [foldS_len, hS]
    by_cases hd : R.due k m = true
    · rw [if_pos hd]
      show (stepS th ⟨m, k, R.tell k m⟩ (foldS th (R.part m k) S)).getD i false = _
      unfold stepS
      rw [set_at (by simp only [Int.toNat_natCast]; omega), Int.toNat_natCast, ih]
      by_cases hi : i = k
      · subst hi
        rw [if_pos rfl, if_pos ⟨by omega, hd⟩]
      · rw [if_neg hi]
        by_cases h2 : i < k ∧ R.due i m = true
        · rw [if_pos h2, if_pos ⟨by omega, h2.2⟩]
        · rw [if_neg h2, if_neg (fun h => h2 ⟨by omega, h.2⟩)]
    · rw [if_neg hd]
      show (foldS th (R.part m k) S).getD i false = _
      rw [ih]
      by_cases hi : i = k
      · subst hi
        rw [if_neg (fun h => hd h.2), if_neg (fun h => hd h.2)]
      · by_cases h2 : i < k ∧ R.due i m = true
        · rw [if_pos h2, if_pos ⟨by omega, h2.2⟩]
        · rw [if_neg h2, if_neg (fun h => h2 ⟨by omega, h.2⟩)]
theorem Rd.st_at {R : Rd} {th : Int} {m i : Nat} (hi : i < R.n) : (R.st th (m + 1)).getD i false = if R.due i m = true then decide (th ≤ R.tell i m) else (R.st th m).getD i false := by
  rw [Rd.st, Rd.blk, Rd.part_at (Rd.st_len m) R.n (Nat.le_refl _)]
  by_cases h : R.due i m = true
  · rw [if_pos ⟨hi, h⟩, if_pos h]
  · rw [if_neg (fun h2 => h h2.2), if_neg h]
/-! ### Counts -/
def cN (p : Nat → Bool) : Nat → Nat
  | 0 => 0
  | n + 1 => cN p n + if p n = true then 1 else 0
theorem cN_le {p q r : Nat → Bool} : ∀ n, (∀ i, i < n → p i = true → q i = true ∨ r i = true) → cN p n ≤ cN q n + cN r n
  | 0, _ => by simp [cN]
  | n + 1, h => by
    have ih := cN_le (p := p) (q := q) (r := r) n fun i hi => h i (by omega)
    have h1 := h n (by omega)
    unfold cN
    by_cases hp : p n = true
    · rw [if_pos hp]
      rcases h1 hp with h2 | h2
      · rw [if_pos h2]; split <;> omega
      · rw [if_pos h2]; split <;> omega
    · rw [if_neg hp]
      split <;> split <;> omega
theorem cN_mono {p q : Nat → Bool} {n : Nat} (h : ∀ i, i < n → p i = true → q i = true) : cN p n ≤ cN q n := by
  have := cN_le (p := p) (q := q) (r := fun _ => false) n fun i hi hp => .inl (h i hi hp)
  have h0 : ∀ n, cN (fun _ => false) n = 0 := fun n => by
    induction n with
    | zero => rfl
    | succ n ih => unfold cN; rw [ih]; rfl
  rw [h0] at this; omega
theorem cN_b {p : Nat → Bool} : ∀ n, cN p n ≤ n
  | 0 => Nat.le_refl _
  | n + 1 => by have := cN_b (p := p) n; unfold cN; split <;> omega
theorem countP_cN {α : Type} [Inhabited α] {p : α → Bool} {l : List α} : ∀ k, k ≤ l.length → (l.take k).countP p = cN (fun i => p (l.getD i default)) k
  | 0, _ => by simp [cN]
  | k + 1, hk => by
    rw [List.take_succ_eq_append_getElem (by omega), List.countP_append, countP_cN k (by omega), cN, ← at_lt (by omega)]
    simp [List.countP_cons]
theorem cN_all {α : Type} [Inhabited α] {p : α → Bool} {l : List α} : l.countP p = cN (fun i => p (l.getD i default)) l.length := by
  have := countP_cN (p := p) (l := l) l.length (Nat.le_refl _)
  rwa [List.take_length] at this
theorem yess_cN {S : List Bool} : yess S = (cN (fun i => S.getD i false) S.length : Int) := by
  have := cN_all (p := id) (l := S)
  unfold yess
  rw [this]; rfl
end Go.Proofs.Ytkanibdihhlmgaa
