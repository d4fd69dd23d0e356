/- A part of the proof that the last text ends: what functions of the program do, told by plain data. -/
import Derived.Test.YtkanibdihhlmgaaAL6
import Derived.Test.YtkanibdihhlmgaaAKq
set_option linter.unusedVariables false
set_option linter.unusedSimpArgs false
namespace Go.Proofs.Ytkanibdihhlmgaa
open Go Go.E
set_option maxRecDepth 100000
set_option maxHeartbeats 1600000
/-! ### At calm -/
theorem quiG_ok {l : List Sen} {vo fa th calm : Int} (h : (quiG l vo fa th calm).2 = 0) : VotOk l vo fa ∧ (0 ≤ th ∧ th ≤ 1048576) ∧ (0 ≤ calm ∧ calm ≤ 1048576) ∧ (quiG l vo fa th calm).1 = qui l vo fa th calm := by
  unfold quiG at h ⊢
  by_cases h1 : votOk l vo fa = true
  · by_cases h2 : gas th = true ∧ gas calm = true
    · rw [if_pos h1, if_pos h2]
      exact ⟨votOk_iff.1 h1, gas_iff.1 h2.1, gas_iff.1 h2.2, rfl⟩
    · rw [if_pos h1, if_neg h2] at h; simp at h
  · rw [if_neg h1] at h; simp at h
theorem quiG_no {l : List Sen} {vo fa th calm : Int} (h : ¬ (quiG l vo fa th calm).2 = 0) : (quiG l vo fa th calm).1 = false := by
  unfold quiG at h ⊢
  by_cases h1 : votOk l vo fa = true
  · by_cases h2 : gas th = true ∧ gas calm = true
    · rw [if_pos h1, if_pos h2] at h; simp at h
    · rw [if_pos h1, if_neg h2]
  · rw [if_neg h1]
abbrev loudB (l : List Sen) (th calm : Int) (i : Nat) : Bool := decide (th ≤ calm + (l.getD i default).err)
theorem qui_cN {l : List Sen} {vo fa th calm : Int} (hl : l.length ≤ 12) : qui l vo fa th calm = decide (fa + (cN (loudB l th calm) l.length : Int) < vo) := by
  rw [qui_loud (by omega), loud, cN_all]
theorem quiet_law {l : List Sen} {vo fa th calm : Int} {tell : Nat → Nat → Int} {bad : Nat → Bool} {M : Nat} (hv : VotOk l vo fa)
    (htell : ∀ i m, i < l.length → m < M → bad i = false → tell i m ≤ calm + (l.getD i default).err) (hbad : (cN bad l.length : Int) ≤ fa) (hq : qui l vo fa th calm = true)
    {m : Nat} (hm : m < M) : yess ((plan l tell).st th (m + 1)) < vo := by
  rw [plan_yess hv.sen]
  rw [qui_cN hv.len.2] at hq
  have hq := of_decide_eq_true hq
  have := cN_le (p := fun i => sayR th (plan l tell) (l.getD i default) i m) (q := bad) (r := loudB l th calm) l.length fun i hi hp => by
    by_cases hb : bad i = true
    · exact .inl hb
    right
    have hb := Bool.eq_false_iff.2 hb
    have hso := hv.sen (l.getD i default) (by rw [at_lt hi]; exact List.getElem_mem _)
    have htell := fun k => htell i k hi
    unfold loudB
    generalize l.getD i default = s at hp hso htell ⊢
    unfold sayR at hp
    by_cases hf : s.first ≤ (m : Int)
    · rw [if_pos hf] at hp
      have hp : th ≤ tell i (lst s m) := of_decide_eq_true hp
      have hl := lst_eq hso hf
      have ha := ago_b hso (m := m)
      have := htell (lst s m) (by omega) hb
      apply decide_eq_true; omega
    · rw [if_neg hf] at hp; exact Bool.noConfusion hp
  omega
/-- How many are raised, of the first ones. -/
def nR (l : List Sen) (fa th calm : Int) : Nat → Int
  | 0 => 0
  | i + 1 => nR l fa th calm i + if calm + (l.getD i default).err < th ∧ nR l fa th calm i < fa then 1 else 0
def tellR (l : List Sen) (fa th calm : Int) (i : Nat) : Int := if calm + (l.getD i default).err < th ∧ nR l fa th calm i < fa then th else calm + (l.getD i default).err
theorem nR_b {l : List Sen} {fa th calm : Int} (h0 : 0 ≤ fa) : ∀ i, (0 ≤ nR l fa th calm i ∧ nR l fa th calm i ≤ fa) ∧ nR l fa th calm i ≤ i
  | 0 => by unfold nR; omega
  | i + 1 => by
    have ih := nR_b (l := l) (th := th) (calm := calm) h0 i
    unfold nR
    split <;> omega
theorem nR_cN {l : List Sen} {fa th calm : Int} (h0 : 0 ≤ fa) : ∀ k, (cN (fun i => decide (th ≤ tellR l fa th calm i)) k : Int) = cN (loudB l th calm) k + nR l fa th calm k ∧ (nR l fa th calm k = fa ∨ nR l fa th calm k = k - cN (loudB l th calm) k)
  | 0 => by simp [cN, nR]
  | k + 1 => by
    have ih := nR_cN (l := l) (th := th) (calm := calm) h0 k
    have hb := nR_b (l := l) (th := th) (calm := calm) h0 k
    have hc := cN_b (p := loudB l th calm) k
    have s1 : cN (fun i => decide (th ≤ tellR l fa th calm i)) (k + 1) = cN (fun i => decide (th ≤ tellR l fa th calm i)) k + if decide (th ≤ tellR l fa th calm k) = true then 1 else 0 := rfl
    have s2 : cN (loudB l th calm) (k + 1) = cN (loudB l th calm) k + if loudB l th calm k = true then 1 else 0 := rfl
    have s3 : nR l fa th calm (k + 1) = nR l fa th calm k + if calm + (l.getD k default).err < th ∧ nR l fa th calm k < fa then 1 else 0 := rfl
    have t0 : tellR l fa th calm k = if calm + (l.getD k default).err < th ∧ nR l fa th calm k < fa then th else calm + (l.getD k default).err := rfl
    have l0 : loudB l th calm k = decide (th ≤ calm + (l.getD k default).err) := rfl
    generalize cN (fun i => decide (th ≤ tellR l fa th calm i)) (k + 1) = X1 at *
    generalize cN (fun i => decide (th ≤ tellR l fa th calm i)) k = X0 at *
    generalize cN (loudB l th calm) (k + 1) = Y1 at *
    generalize cN (loudB l th calm) k = Y0 at *
    generalize nR l fa th calm (k + 1) = Z1 at *
    generalize nR l fa th calm k = Z0 at *
    generalize tellR l fa th calm k = T at *
    generalize loudB l th calm k = L at *
    subst l0
    by_cases h1 : calm + (l.getD k default).err < th
    · have h2 : ¬ th ≤ calm + (l.getD k default).err := by omega
      rw [if_neg (by rw [decide_eq_false h2]; decide)] at s2
      by_cases h3 : Z0 < fa
      · rw [if_pos ⟨h1, h3⟩] at t0 s3
        rw [t0, if_pos (decide_eq_true (Int.le_refl th))] at s1
        omega
      · rw [if_neg (fun h => h3 h.2)] at t0 s3
        rw [t0, if_neg (by rw [decide_eq_false h2]; decide)] at s1
        omega
    · have h2 : th ≤ calm + (l.getD k default).err := by omega
      rw [if_pos (decide_eq_true h2)] at s2
      rw [if_neg (fun h => h1 h.1)] at t0 s3
      rw [t0, if_pos (decide_eq_true h2)] at s1
      omega
/-- All read once, in minute 0. -/
def once (l : List Sen) (tell : Nat → Int) : Rd := ⟨l.length, fun _ _ => true, fun i _ => tell i⟩
theorem loud_law {l : List Sen} {vo fa th calm : Int} (hv : VotOk l vo fa) (ht : 0 ≤ th ∧ th ≤ 1048576) (hq : qui l vo fa th calm = false) : (alarmG l vo fa th ((once l (tellR l fa th calm)).part 0 l.length)).2 = 0 := by
  have hal := Rd.alarm (R := once l (tellR l fa th calm)) (M := 1) (vo := vo) (fa := fa) (th := th) hv ht rfl (by omega)
  have e1 : (once l (tellR l fa th calm)).all 1 = (once l (tellR l fa th calm)).part 0 l.length := List.nil_append _
  rw [e1] at hal
  rw [hal]
  refine (fstM_hit 1 0 0 (by omega) (by omega) ?_).1
  rw [qui_cN hv.len.2] at hq
  have hq := of_decide_eq_false hq
  have hn := nR_cN (l := l) (th := th) (calm := calm) hv.fa.1 l.length
  have hy : yess ((once l (tellR l fa th calm)).st th 1) = (cN (fun i => decide (th ≤ tellR l fa th calm i)) l.length : Int) := by
    rw [yess_cN, Rd.st_len]
    show ((cN _ l.length : Nat) : Int) = _
    have : ∀ n, n ≤ l.length → cN (fun i => ((once l (tellR l fa th calm)).st th 1).getD i false) n = cN (fun i => decide (th ≤ tellR l fa th calm i)) n := fun n => by
      induction n with
      | zero => intro _; rfl
      | succ n ih =>
        intro hn
        have h1 := Rd.st_at (R := once l (tellR l fa th calm)) (th := th) (m := 0) (i := n) hn
        unfold cN
        rw [ih (by omega), h1]
        rfl
    rw [this _ (Nat.le_refl _)]
  show vo ≤ yess ((once l (tellR l fa th calm)).st th 1)
  rw [hy]
  have := hv.vo
  omega
end Go.Proofs.Ytkanibdihhlmgaa
