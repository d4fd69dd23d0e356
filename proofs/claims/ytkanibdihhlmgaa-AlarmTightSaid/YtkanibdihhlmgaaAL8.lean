/- A part of the proof that the last text ends: what functions of the program do, told by plain data. -/
import Derived.Test.YtkanibdihhlmgaaAL6
import Derived.Test.YtkanibdihhlmgaaAI
set_option linter.unusedVariables false
set_option linter.unusedSimpArgs false
namespace Go.Proofs.Ytkanibdihhlmgaa
open Go Go.E
set_option maxRecDepth 100000
set_option maxHeartbeats 1600000
/-! ### The steepest course, and those that would say yes first -/
def cT (rise : Int) (M : Nat) (c : Int) (m : Nat) : Int := max 0 (c - rise * ((M : Int) - m))
def pickN (l : List Sen) (th rise : Int) (M : Nat) (B : List Bool) : Nat → Int × Int
  | 0 => (-1, 0)
  | i + 1 => if has M (l.getD i default) = true ∧ B.getD i default = false ∧ ((pickN l th rise M B i).1 < 0 ∨ val th rise M (l.getD i default) < (pickN l th rise M B i).2) then ((i : Int), val th rise M (l.getD i default)) else pickN l th rise M B i
def badN (l : List Sen) (th rise : Int) (M : Nat) : Nat → List Bool
  | 0 => noS l.length
  | k + 1 => if 0 ≤ (pickN l th rise M (badN l th rise M k) l.length).1 then (badN l th rise M k).set (pickN l th rise M (badN l th rise M k) l.length).1.toNat true else badN l th rise M k
theorem badN_len {l : List Sen} {th rise : Int} {M : Nat} : ∀ k, (badN l th rise M k).length = l.length
  | 0 => noS_len
  | k + 1 => by
    unfold badN
    split
    · rw [List.length_set, badN_len k]
    · exact badN_len k
theorem pickN_b {l : List Sen} {th rise : Int} {M : Nat} {B : List Bool} : ∀ k, -1 ≤ (pickN l th rise M B k).1 ∧ (pickN l th rise M B k).1 < k
  | 0 => by unfold pickN; simp only; omega
  | k + 1 => by
    have ih := pickN_b (l := l) (th := th) (rise := rise) (M := M) (B := B) k
    unfold pickN
    split
    · simp only; omega
    · omega
theorem pickN_spec {l : List Sen} {th rise : Int} {M : Nat} {B : List Bool} : ∀ k, ((pickN l th rise M B k).1 < 0 ∧ ∀ i, i < k → ¬ (has M (l.getD i default) = true ∧ B.getD i default = false)) ∨
    (∃ j, j < k ∧ (pickN l th rise M B k).1 = (j : Nat) ∧ has M (l.getD j default) = true ∧ B.getD j default = false ∧ (pickN l th rise M B k).2 = val th rise M (l.getD j default) ∧ ∀ i, i < k → has M (l.getD i default) = true → B.getD i default = false → (pickN l th rise M B k).2 ≤ val th rise M (l.getD i default))
  | 0 => .inl ⟨by unfold pickN; simp only; omega, fun i h => by omega⟩
  | k + 1 => by
    have ih := pickN_spec (l := l) (th := th) (rise := rise) (M := M) (B := B) k
    unfold pickN
    split
    · rename_i h
      right
      refine ⟨k, by omega, rfl, h.1, h.2.1, rfl, fun i hi h1 h2 => ?_⟩
      rcases Nat.lt_or_ge i k with h3 | h3
      · simp only
        rcases ih with h4 | ⟨j, h4, h5, h6, h7, h8, h9⟩
        · exact absurd ⟨h1, h2⟩ (h4.2 i h3)
        · have := h9 i h3 h1 h2
          rcases h.2.2 with h10 | h10
          · omega
          · omega
      · rw [show i = k by omega]; exact Int.le_refl _
    · rename_i h
      rcases ih with h4 | ⟨j, h4, h5, h6, h7, h8, h9⟩
      · left
        refine ⟨h4.1, fun i hi h1 => ?_⟩
        rcases Nat.lt_or_ge i k with h3 | h3
        · exact h4.2 i h3 h1
        · rw [show i = k by omega] at h1
          exact h ⟨h1.1, h1.2, .inl h4.1⟩
      · right
        refine ⟨j, by omega, h5, h6, h7, h8, fun i hi h1 h2 => ?_⟩
        rcases Nat.lt_or_ge i k with h3 | h3
        · exact h9 i h3 h1 h2
        · rw [show i = k by omega] at h1 h2 ⊢
          rcases Int.lt_or_le (val th rise M (l.getD k default)) (pickN l th rise M B k).2 with h10 | h10
          · exact absurd ⟨h1, h2, .inr h10⟩ h
          · exact h10
theorem cN_drop {p q : Nat → Bool} {j : Nat} (hj : p j = true) (hq : q j = false) (h : ∀ i, q i = true → p i = true) : ∀ n, j < n → cN q n + 1 ≤ cN p n
  | 0, h0 => by omega
  | n + 1, h0 => by
    unfold cN
    by_cases he : j = n
    · subst he
      rw [hj, hq]
      have := cN_mono (p := q) (q := p) (n := j) fun i _ => h i
      simp; omega
    · have ih := cN_drop hj hq h n (by omega)
      by_cases hn : q n = true
      · rw [if_pos hn, if_pos (h n hn)]; omega
      · rw [if_neg hn]; omega
abbrev low (l : List Sen) (th rise : Int) (M : Nat) (c : Int) (i : Nat) : Bool := has M (l.getD i default) && decide (val th rise M (l.getD i default) ≤ c)
theorem low_left {l : List Sen} {th rise c : Int} {M : Nat} : ∀ k, (cN (fun i => low l th rise M c i && !(badN l th rise M k).getD i false) l.length : Int) ≤ max 0 ((cN (low l th rise M c) l.length : Int) - k)
  | 0 => by
    have := cN_mono (p := fun i => low l th rise M c i && !(badN l th rise M 0).getD i false) (q := low l th rise M c) (n := l.length) fun i _ h => by
      simp only [Bool.and_eq_true] at h ⊢; exact h.1
    omega
  | k + 1 => by
    have ih := low_left (l := l) (th := th) (rise := rise) (c := c) (M := M) k
    have hs := pickN_spec (l := l) (th := th) (rise := rise) (M := M) (B := badN l th rise M k) l.length
    have hbl := badN_len (l := l) (th := th) (rise := rise) (M := M) k
    have hb : badN l th rise M (k + 1) = if 0 ≤ (pickN l th rise M (badN l th rise M k) l.length).1 then (badN l th rise M k).set (pickN l th rise M (badN l th rise M k) l.length).1.toNat true else badN l th rise M k := rfl
    generalize pickN l th rise M (badN l th rise M k) l.length = p at hs hb
    generalize badN l th rise M k = B at *
    rw [hb]
    rcases hs with h4 | ⟨j, h4, h5, h6, h7, h8, h9⟩
    · rw [if_neg (by omega)]
      have h0 : cN (fun i => low l th rise M c i && !B.getD i false) l.length = 0 := by
        have : ∀ n, n ≤ l.length → cN (fun i => low l th rise M c i && !B.getD i false) n = 0 := fun n => by
          induction n with
          | zero => intro _; rfl
          | succ n ihn =>
            intro hn
            have h1 := h4.2 n (by omega)
            unfold cN
            rw [ihn (by omega), if_neg]
            intro h2
            simp only [Bool.and_eq_true, Bool.not_eq_true', decide_eq_true_eq] at h2
            exact h1 ⟨h2.1.1, h2.2⟩
        exact this _ (Nat.le_refl _)
      rw [h0]; omega
    · rw [if_pos (by omega), h5, Int.toNat_natCast]
      have hset : ∀ i, (B.set j true).getD i false = if i = j then true else B.getD i false := fun i => set_at (by omega) true i
      by_cases hl : val th rise M (l.getD j default) ≤ c
      · have hd := cN_drop (p := fun i => low l th rise M c i && !B.getD i false) (q := fun i => low l th rise M c i && !(B.set j true).getD i false) (j := j) (by
          have h7 : B.getD j false = false := h7
          show (has M (l.getD j default) && decide (val th rise M (l.getD j default) ≤ c) && !B.getD j false) = true
          rw [h6, h7, decide_eq_true hl]; rfl) (by
          simp only [hset, if_true, Bool.not_true, Bool.and_false]) (fun i hi => by
          simp only [hset] at hi
          split at hi
          · simp at hi
          · exact hi) l.length h4
        omega
      · have h0 : cN (fun i => low l th rise M c i && !(B.set j true).getD i false) l.length = 0 := by
          have : ∀ n, n ≤ l.length → cN (fun i => low l th rise M c i && !(B.set j true).getD i false) n = 0 := fun n => by
            induction n with
            | zero => intro _; rfl
            | succ n ihn =>
              intro hn
              unfold cN
              rw [ihn (by omega), if_neg]
              intro h2
              simp only [hset, Bool.and_eq_true, Bool.not_eq_true', decide_eq_true_eq] at h2
              by_cases hnj : n = j
              · rw [if_pos hnj] at h2; exact Bool.noConfusion h2.2
              · rw [if_neg hnj] at h2
                have := h9 n (by omega) h2.1.1 h2.2
                omega
          exact this _ (Nat.le_refl _)
        rw [h0]; omega
def tellT (l : List Sen) (B : List Bool) (th rise : Int) (M : Nat) (c : Int) (i k : Nat) : Int := if B.getD i default = true then th - 1 else cT rise M c k - (l.getD i default).err
def planT (l : List Sen) (th rise : Int) (M : Nat) (c fa : Int) : Rd := plan l (tellT l (badN l th rise M fa.toNat) th rise M c)
def silG (l : List Sen) (vo fa th rise : Int) (M : Nat) (c : Int) : Bool := decide ((alarmG l vo fa th ((planT l th rise M c fa).all (M + 1))).2 = 4)
theorem sur_low {s : Sen} (hs : SenOk s) {th rise c : Int} {M : Nat} (ht : 0 ≤ th) (hc : c ≤ 1048576) : decide (sur th rise M s ≤ c) = (has M s && decide (val th rise M s ≤ c)) := by
  have := hs.err
  unfold sur has val
  by_cases h1 : (M : Int) < s.first
  · simp [h1]; omega
  · by_cases h2 : th + s.err = 0
    · have h3 : th = 0 ∧ s.err = 0 := by omega
      rw [if_neg h1, if_pos h3, if_pos h2]; simp [h1]
    · have h3 : ¬ (th = 0 ∧ s.err = 0) := by omega
      rw [if_neg h1, if_neg h3, if_neg h2]; simp [h1]
theorem silent_law {l : List Sen} {vo fa th rise c : Int} {M : Nat} (hv : VotOk l vo fa) (ht : 0 ≤ th ∧ th ≤ 1048576) (hr : 0 ≤ rise) (hc : 0 ≤ c ∧ c ≤ 1048576) (hM : M ≤ 60) (hsu : c < surely l vo fa th rise M) : silG l vo fa th rise M c = true := by
  have hcn : cN (fun i => decide (sur th rise M (l.getD i default) ≤ c)) l.length = cN (low l th rise M c) l.length := by
    have : ∀ n, n ≤ l.length → cN (fun i => decide (sur th rise M (l.getD i default) ≤ c)) n = cN (low l th rise M c) n := fun n => by
      induction n with
      | zero => intro _; rfl
      | succ n ih =>
        intro hn
        have h1 := sur_low (th := th) (rise := rise) (c := c) (M := M) (hv.sen (l.getD n default) (by rw [at_lt (by omega)]; exact List.getElem_mem _)) ht.1 hc.2
        unfold cN
        rw [ih (by omega), h1]
    exact this _ (Nat.le_refl _)
  have hlo : ¬ vo + fa ≤ (cN (low l th rise M c) l.length : Int) := by
    rw [← hcn, ← surely_cN hv.vo.1 hv.fa.1 (by omega)]; omega
  have hle := low_left (l := l) (th := th) (rise := rise) (c := c) (M := M) fa.toNat
  have hfa := hv.fa.1
  have hvo := hv.vo.1
  have hal := Rd.alarm (R := planT l th rise M c fa) (vo := vo) (fa := fa) (th := th) (M := M + 1) hv ht rfl (by omega)
  unfold silG
  rw [hal, fstM_none]
  · rfl
  intro m _ hm
  show yess ((planT l th rise M c fa).st th (m + 1)) < vo
  unfold planT
  rw [plan_yess hv.sen]
  have := cN_mono (p := fun i => sayR th (plan l (tellT l (badN l th rise M fa.toNat) th rise M c)) (l.getD i default) i m) (q := fun i => low l th rise M c i && !(badN l th rise M fa.toNat).getD i false) (n := l.length) fun i hi hp => by
    have hso := hv.sen (l.getD i default) (by rw [at_lt hi]; exact List.getElem_mem _)
    have htt : ∀ k, (plan l (tellT l (badN l th rise M fa.toNat) th rise M c)).tell i k = if (badN l th rise M fa.toNat).getD i false = true then th - 1 else cT rise M c k - (l.getD i default).err := fun k => rfl
    unfold low
    generalize badN l th rise M fa.toNat = B at *
    generalize l.getD i default = s at *
    unfold sayR at hp
    by_cases hf : s.first ≤ (m : Int)
    · rw [if_pos hf, htt] at hp
      have hp := of_decide_eq_true hp
      by_cases hb : B.getD i false = true
      · rw [if_pos hb] at hp; omega
      · rw [if_neg hb] at hp
        have hb := Bool.eq_false_iff.2 hb
        have hmo := lst_mono hso (k := M - m) hf
        rw [show m + (M - m) = M by omega] at hmo
        have hlM := lst_eq hso (m := M) (by omega)
        have haM := ago_b hso (m := M)
        have hmul : rise * ((M : Int) - lst s M) ≤ rise * ((M : Int) - lst s m) := Int.mul_le_mul_of_nonneg_left (by omega) hr
        rw [show (M : Int) - lst s M = ago s M by omega] at hmul
        have hraw := Int.mul_nonneg hr haM.1
        unfold cT at hp
        have hh : has M s = true := by unfold has; simp; omega
        have hvl : val th rise M s ≤ c := by
          unfold val
          have := hso.err
          unfold ago at hmul hraw
          split
          · omega
          · omega
        rw [hb, hh, decide_eq_true hvl]; rfl
    · rw [if_neg hf] at hp; exact Bool.noConfusion hp
  omega
theorem worst_none {l : List Sen} {vo fa th rise a b : Int} (h0 : ¬ (worstG l vo fa th rise a b).2.2 = 0) (h1 : ¬ (worstG l vo fa th rise a b).2.2 = 1) (h2 : ¬ (worstG l vo fa th rise a b).2.2 = 2) :
    VotOk l vo fa ∧ (0 ≤ th ∧ th ≤ 1048576) ∧ (0 ≤ rise ∧ rise ≤ 1048576) ∧ ((0 ≤ b ∧ b ≤ 2000) ∧ 0 ≤ a ∧ a ≤ b) ∧ ∃ m, (a ≤ m ∧ m ≤ b) ∧ surely l vo fa th rise m = 1048577 := by
  have k1 : votOk l vo fa = true := by
    unfold worstG at h1
    by_cases k1 : votOk l vo fa = true
    · exact k1
    · rw [if_neg k1] at h1; exact absurd rfl h1
  have k2 : gas th = true ∧ gas rise = true ∧ tim a b = true := by
    unfold worstG at h2
    by_cases k2 : gas th = true ∧ gas rise = true ∧ tim a b = true
    · exact k2
    · rw [if_pos k1, if_neg k2] at h2; exact absurd rfl h2
  have hv := votOk_iff.1 k1
  have ht := gas_iff.1 k2.1
  have hr := gas_iff.1 k2.2.1
  have hab := tim_iff.1 k2.2.2
  have hsp := wst_spec (f := surely l vo fa th rise) hab.2.2 (surely_b (m := a) hv ht.1 hr.1).1
  refine ⟨hv, ht, hr, hab, (wst (surely l vo fa th rise) a b).2, hsp.2.1, ?_⟩
  rw [← hsp.2.2]
  unfold worstG resG at h0
  rw [if_pos k1, if_pos k2] at h0
  by_cases h3 : (wst (surely l vo fa th rise) a b).1 = 1048577
  · exact h3
  · rw [if_neg h3] at h0; exact absurd rfl h0
end Go.Proofs.Ytkanibdihhlmgaa
