/- A part of the proof that the last text ends: what functions of the program do, told by plain data. -/
import Derived.Test.YtkanibdihhlmgaaAL5
set_option linter.unusedVariables false
set_option linter.unusedSimpArgs false
namespace Go.Proofs.Ytkanibdihhlmgaa
open Go Go.E
set_option maxRecDepth 100000
set_option maxHeartbeats 1600000
/-! ### The last reading of a sensor -/
def Sen.due (s : Sen) (m : Nat) : Bool := decide (s.first ≤ (m : Int)) && decide (((m : Int) - s.first) % s.every = 0)
/-- How long ago a sensor read, in a minute from its first one on. -/
def ago (s : Sen) (m : Nat) : Int := ((m : Int) - s.first) % s.every
def lst (s : Sen) (m : Nat) : Nat := ((m : Int) - ago s m).toNat
theorem emod_succ {x n : Int} (hn : 1 ≤ n) : ((x + 1) % n = 0 ∨ (x + 1) % n = x % n + 1) := by
  have h1 := Int.emod_nonneg x (show n ≠ 0 by omega)
  have h2 := Int.emod_lt_of_pos x (show 0 < n by omega)
  have h3 : (x + 1) % n = (x % n + 1) % n := (Int.emod_add_emod x n 1).symm
  rcases Int.lt_or_le (x % n + 1) n with h4 | h4
  · right; rw [h3, Int.emod_eq_of_lt (by omega) h4]
  · left; rw [h3, show x % n + 1 = n by omega, Int.emod_self]
theorem ago_b {s : Sen} (hs : SenOk s) {m : Nat} : 0 ≤ ago s m ∧ ago s m < s.every := ⟨Int.emod_nonneg _ (by have := hs.every; omega), Int.emod_lt_of_pos _ (by have := hs.every; omega)⟩
theorem ago_le {s : Sen} (hs : SenOk s) {m : Nat} (h : s.first ≤ m) : ago s m ≤ (m : Int) - s.first := by
  unfold ago
  have h0 := hs.every
  have h1 := Int.emod_add_mul_ediv ((m : Int) - s.first) s.every
  have h2 : 0 ≤ ((m : Int) - s.first) / s.every := Int.ediv_nonneg (by omega) (by omega)
  have h3 := Int.mul_nonneg (show 0 ≤ s.every by omega) h2
  omega
theorem lst_eq {s : Sen} (hs : SenOk s) {m : Nat} (h : s.first ≤ m) : (lst s m : Int) = m - ago s m := by
  have := ago_le hs h
  have := hs.first
  unfold lst; omega
def sayR (th : Int) (R : Rd) (s : Sen) (i m : Nat) : Bool := if s.first ≤ (m : Int) then decide (th ≤ R.tell i (lst s m)) else false
theorem Rd.last {R : Rd} {th : Int} {s : Sen} {i : Nat} (hi : i < R.n) (hs : SenOk s) (hd : ∀ m, R.due i m = s.due m) : ∀ m, (R.st th (m + 1)).getD i false = sayR th R s i m
  | 0 => by
    rw [Rd.st_at hi, hd]
    unfold sayR Sen.due
    have h0 : (R.st th 0).getD i false = false := by
      show (noS R.n).getD i false = false
      simp [noS, List.getD, List.getElem?_replicate, hi]
    rw [h0]
    have hf := hs.first
    by_cases h : s.first ≤ ((0 : Nat) : Int)
    · have he : s.first = 0 := by omega
      rw [if_pos h, he]
      simp [lst, ago, he]
    · rw [if_neg h, decide_eq_false h, Bool.false_and]; rfl
  | m + 1 => by
    rw [Rd.st_at hi, hd, Rd.last hi hs hd m]
    unfold sayR Sen.due
    have hev := hs.every
    by_cases h : s.first ≤ ((m + 1 : Nat) : Int)
    · rw [if_pos h]
      by_cases h2 : (((m + 1 : Nat) : Int) - s.first) % s.every = 0
      · have hl : lst s (m + 1) = m + 1 := by unfold lst ago; rw [h2]; omega
        rw [hl, if_pos (by simp only [h, h2, decide_true, Bool.and_self])]
      · rw [if_neg (by simp only [h, h2, decide_true, decide_false, Bool.and_false]; decide)]
        have h3 : s.first ≤ (m : Int) := by
          rcases Int.lt_or_le (m : Int) s.first with h4 | h4
          · exact absurd (by rw [show ((m + 1 : Nat) : Int) - s.first = 0 by omega, Int.zero_emod]) h2
          · exact h4
        rw [if_pos h3]
        have h5 := emod_succ (x := (m : Int) - s.first) (n := s.every) (by omega)
        rw [show (m : Int) - s.first + 1 = ((m + 1 : Nat) : Int) - s.first by omega] at h5
        have h6 : lst s (m + 1) = lst s m := by unfold lst ago; omega
        rw [h6]
    · rw [if_neg h, if_neg (by simp only [h, decide_false, Bool.false_and]; decide), if_neg (by omega)]
theorem lst_mono {s : Sen} (hs : SenOk s) {m k : Nat} (h : s.first ≤ m) : lst s m ≤ lst s (m + k) := by
  induction k with
  | zero => exact Nat.le_refl _
  | succ k ih =>
    have h1 := lst_eq hs h
    have h2 := lst_eq hs (m := m + k) (by omega)
    have h3 := lst_eq hs (m := m + k + 1) (by omega)
    have h5 := emod_succ (x := ((m + k : Nat) : Int) - s.first) (n := s.every) (by have := hs.every; omega)
    rw [show ((m + k : Nat) : Int) - s.first + 1 = ((m + k + 1 : Nat) : Int) - s.first by omega] at h5
    have h6 := ago_le hs (m := m + k) (by omega)
    have h7 := (ago_b hs (m := m + k)).1
    unfold ago at *
    show lst s m ≤ lst s (m + k + 1)
    omega
/-! ### Worst -/
theorem wsk_spec {f : Int → Int} : ∀ k m most w, most ≤ (wsk f k m most w).1 ∧ (∀ j, m ≤ j → j < m + k → f j ≤ (wsk f k m most w).1) ∧ ((wsk f k m most w = (most, w)) ∨ (m ≤ (wsk f k m most w).2 ∧ (wsk f k m most w).2 < m + k ∧ (wsk f k m most w).1 = f (wsk f k m most w).2))
  | 0, m, most, w => ⟨Int.le_refl _, fun j h1 h2 => by omega, .inl rfl⟩
  | k + 1, m, most, w => by
    unfold wsk
    split
    · rename_i h
      have ih := wsk_spec (f := f) k (m + 1) (f m) m
      have i1 := ih.1
      refine ⟨by omega, fun j h1 h2 => ?_, .inr ?_⟩
      · rcases Int.lt_or_le m j with h3 | h3
        · exact ih.2.1 j (by omega) (by omega)
        · rw [show j = m by omega]; exact ih.1
      · rcases ih.2.2 with h3 | h3
        · rw [h3]; exact ⟨Int.le_refl _, by show m < m + ((k + 1 : Nat) : Int); omega, rfl⟩
        · omega
    · rename_i h
      have ih := wsk_spec (f := f) k (m + 1) most w
      have i1 := ih.1
      refine ⟨by omega, fun j h1 h2 => ?_, ?_⟩
      · rcases Int.lt_or_le m j with h3 | h3
        · exact ih.2.1 j (by omega) (by omega)
        · rw [show j = m by omega]; omega
      · rcases ih.2.2 with h3 | h3
        · exact .inl h3
        · right; omega
theorem wst_spec {f : Int → Int} {a b : Int} (hab : a ≤ b) (h0 : 0 ≤ f a) : (∀ j, a ≤ j → j ≤ b → f j ≤ (wst f a b).1) ∧ (a ≤ (wst f a b).2 ∧ (wst f a b).2 ≤ b) ∧ (wst f a b).1 = f (wst f a b).2 := by
  have h := wsk_spec (f := f) (b + 1 - a).toNat a (-1) 0
  have h1 := h.2.1 a (by omega) (by omega)
  unfold wst
  refine ⟨fun j h2 h3 => h.2.1 j h2 (by omega), ?_⟩
  rcases h.2.2 with h3 | h3
  · rw [h3] at h1; simp only at h1; omega
  · omega
/-- What Worst tells when it tells something. -/
theorem worst_ok {l : List Sen} {vo fa th rise a b : Int} (h : (worstG l vo fa th rise a b).2.2 = 0) :
    VotOk l vo fa ∧ (0 ≤ th ∧ th ≤ 1048576) ∧ (0 ≤ rise ∧ rise ≤ 1048576) ∧ ((0 ≤ b ∧ b ≤ 2000) ∧ 0 ≤ a ∧ a ≤ b) ∧
    (∀ m, a ≤ m → m ≤ b → surely l vo fa th rise m ≤ (worstG l vo fa th rise a b).1 + 1) ∧ (a ≤ (worstG l vo fa th rise a b).2.1 ∧ (worstG l vo fa th rise a b).2.1 ≤ b) ∧ (worstG l vo fa th rise a b).1 + 1 = surely l vo fa th rise (worstG l vo fa th rise a b).2.1 ∧ (-1 ≤ (worstG l vo fa th rise a b).1 ∧ (worstG l vo fa th rise a b).1 < 1048576) := by
  have h1 : votOk l vo fa = true := by
    unfold worstG at h
    by_cases h1 : votOk l vo fa = true
    · exact h1
    · rw [if_neg h1] at h; simp at h
  have h2 : gas th = true ∧ gas rise = true ∧ tim a b = true := by
    unfold worstG at h
    by_cases h2 : gas th = true ∧ gas rise = true ∧ tim a b = true
    · exact h2
    · rw [if_pos h1, if_neg h2] at h; simp at h
  have hv := votOk_iff.1 h1
  have ht := gas_iff.1 h2.1
  have hr := gas_iff.1 h2.2.1
  have hab := tim_iff.1 h2.2.2
  have hs0 := fun m => surely_b (m := m) hv ht.1 hr.1
  have hsp := wst_spec (f := surely l vo fa th rise) hab.2.2 (hs0 a).1
  have hw : worstG l vo fa th rise a b = resG (wst (surely l vo fa th rise) a b) := by unfold worstG; rw [if_pos h1, if_pos h2]
  rw [hw] at h ⊢
  have hb := wst_b (rise := rise) (th := th) hv ht.1 hr.1 hab.2.1 hab.2.2
  have hx := hs0 (wst (surely l vo fa th rise) a b).2
  unfold resG at h ⊢
  by_cases h3 : (wst (surely l vo fa th rise) a b).1 = 1048577
  · rw [if_pos h3] at h; simp at h
  · rw [if_neg h3] at h ⊢
    simp only
    refine ⟨hv, ht, hr, hab, fun m h4 h5 => ?_, hsp.2.1, ?_, ?_⟩
    · have := hsp.1 m h4 h5; omega
    · have := hsp.2.2; omega
    · omega
/-! ### As soon as there is so much, there is an alarm -/
theorem surely_cN {l : List Sen} {vo fa th rise m t : Int} (hv : 1 ≤ vo) (hf : 0 ≤ fa) (ht : t < 1048577) : surely l vo fa th rise m ≤ t ↔ vo + fa ≤ (cN (fun i => decide (sur th rise m (l.getD i default) ≤ t)) l.length : Int) := by
  have hc : cnt t (surs th rise m l) = cN (fun i => decide (sur th rise m (l.getD i default) ≤ t)) l.length := by
    unfold cnt surs
    rw [List.countP_map, cN_all]; rfl
  have hb := cN_b (p := fun i => decide (sur th rise m (l.getD i default) ≤ t)) l.length
  unfold surely
  by_cases h : vo + fa ≤ l.length
  · rw [if_pos h]
    have hk := kth_iff (L := surs th rise m l) (n := (vo + fa - 1).toNat) (t := t) (by rw [surs_len]; omega)
    rw [hc] at hk
    unfold kth at hk
    constructor
    · intro h2
      have := hk.1 (by omega)
      omega
    · intro h2
      have := hk.2 (by omega)
      omega
  · rw [if_neg h]; omega
theorem climb {c : Nat → Int} {rise : Int} {M : Nat} (hr : 0 ≤ rise) (hc : ∀ m, m < M → c (m + 1) ≤ c m + rise) : ∀ k a, a + k ≤ M → c (a + k) ≤ c a + rise * k
  | 0, a, _ => by simp
  | k + 1, a, h => by
    have h1 := climb hr hc k a (by omega)
    have h2 := hc (a + k) (by omega)
    have h3 : rise * ((k + 1 : Nat) : Int) = rise * k + rise := by rw [Int.natCast_succ, Int.mul_add, Int.mul_one]
    rw [h3, ← Nat.add_assoc]; omega
/-- A plan of readings by a voting's sensors. -/
def plan (l : List Sen) (tell : Nat → Nat → Int) : Rd := ⟨l.length, fun i m => (l.getD i default).due m, tell⟩
theorem plan_yess {l : List Sen} {tell : Nat → Nat → Int} {th : Int} (hs : ∀ s ∈ l, SenOk s) (m : Nat) : yess ((plan l tell).st th (m + 1)) = (cN (fun i => sayR th (plan l tell) (l.getD i default) i m) l.length : Int) := by
  rw [yess_cN, Rd.st_len]
  show ((cN _ l.length : Nat) : Int) = _
  have : ∀ n, n ≤ l.length → cN (fun i => ((plan l tell).st th (m + 1)).getD i false) n = cN (fun i => sayR th (plan l tell) (l.getD i default) i m) n := fun n => by
    induction n with
    | zero => intro _; rfl
    | succ n ih =>
      intro hn
      have h1 := Rd.last (R := plan l tell) (th := th) (s := l.getD n default) (i := n) (show n < l.length by omega) (hs _ (by rw [at_lt (by omega)]; exact List.getElem_mem _)) (fun m => rfl) m
      unfold cN
      rw [ih (by omega)]
      simp only [h1]
  rw [this _ (Nat.le_refl _)]
theorem sure_law {l : List Sen} {vo fa th rise : Int} {c : Nat → Int} {tell : Nat → Nat → Int} {bad : Nat → Bool} {M : Nat} (hv : VotOk l vo fa) (ht : 0 ≤ th) (hr : 0 ≤ rise)
    (c0 : ∀ m, m ≤ M → 0 ≤ c m ∧ c m ≤ 1048576) (c1 : ∀ m, m < M → c (m + 1) ≤ c m + rise) (htell : ∀ i m, i < l.length → m ≤ M → bad i = false → c m - (l.getD i default).err ≤ tell i m) (hbad : (cN bad l.length : Int) ≤ fa)
    {m : Nat} (hm : m ≤ M) (hsu : surely l vo fa th rise m ≤ c m) : vo ≤ yess ((plan l tell).st th (m + 1)) := by
  rw [plan_yess hv.sen]
  rw [surely_cN hv.vo.1 hv.fa.1 (by have := (c0 m hm).2; omega)] at hsu
  have := cN_le (p := fun i => decide (sur th rise m (l.getD i default) ≤ c m)) (q := fun i => sayR th (plan l tell) (l.getD i default) i m) (r := bad) l.length fun i hi hp => by
    by_cases hb : bad i = true
    · exact .inr hb
    left
    have hb := Bool.eq_false_iff.2 hb
    have hso := hv.sen (l.getD i default) (by rw [at_lt hi]; exact List.getElem_mem _)
    have htell := fun k => htell i k hi
    generalize l.getD i default = s at hp hso htell ⊢
    have hp := of_decide_eq_true hp
    unfold sur at hp
    have hf : s.first ≤ (m : Int) := by
      rcases Int.lt_or_le (m : Int) s.first with h | h
      · rw [if_pos h] at hp; have := (c0 m hm).2; omega
      · exact h
    rw [if_neg (by omega)] at hp
    unfold sayR
    rw [if_pos hf]
    apply decide_eq_true
    show th ≤ tell i (lst s m)
    have hl := lst_eq hso hf
    have ha := ago_b hso (m := m)
    have hlm : lst s m ≤ m := by omega
    have htl := htell (lst s m) (by omega) hb
    have hcl := (c0 (lst s m) (by omega)).1
    by_cases hz : th = 0 ∧ s.err = 0
    · omega
    · rw [if_neg hz] at hp
      have hcm := climb hr c1 (ago s m).toNat (lst s m) (by omega)
      rw [show lst s m + (ago s m).toNat = m by omega, show (((ago s m).toNat : Nat) : Int) = ago s m by omega] at hcm
      unfold ago at hcm
      omega
  omega
end Go.Proofs.Ytkanibdihhlmgaa
