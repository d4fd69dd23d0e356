/- A part of the proof that the last text ends: what functions of the program do, told by plain data. -/
import Derived.Test.YtofbbkacihnjdaaIHJ
set_option linter.unusedVariables false
set_option linter.unusedSimpArgs false
namespace Go.Proofs.Ytofbbkacihnjdaa
open Go Go.E Go.Maps
set_option maxRecDepth 100000
set_option maxHeartbeats 16000000
abbrev Sd.av (s : Sd) : List AV := [.i s.h, .i s.l, .i s.n.a, .i s.n.b, .i s.n.c, .i s.n.d, .i s.n.e]
def lstP (p : List Int) (k : Nat) : Int := if k = 0 then -1 else p.getD (k - 1) default
def cnP (p : List Int) (k : Nat) : Cn := ⟨cnG p k 0, cnG p k 1, cnG p k 2, cnG p k 3, cnG p k 4⟩
def sdP (p : List Int) (k : Nat) : Sd := ⟨(k : Int), lstP p k, cnP p k⟩
theorem cnG_zero {p : List Int} {g : Int} : cnG p 0 g = 0 := by simp [cnG]
theorem sdP_zero {p : List Int} : sdP p 0 = bgS := by simp [sdP, lstP, cnP, cnG_zero, bgS]
theorem cnP_at {p : List Int} {k g : Nat} (h : g < 5) : (cnP p k).at (g : Int) = (cnG p k (g : Int) : Int) := by
  rcases (show g = 0 ∨ g = 1 ∨ g = 2 ∨ g = 3 ∨ g = 4 by omega) with rfl | rfl | rfl | rfl | rfl <;> rfl
theorem cnG_add {p : List Int} {k : Nat} (h : k < p.length) {g : Int} : (cnG p (k + 1) g : Int) = (cnG p k g : Int) + (if p.getD k default = g then 1 else 0) := by
  by_cases c : p.getD k default = g
  · rw [cnG_yes h c, if_pos c]; rfl
  · rw [cnG_no h c, if_neg c]; omega
theorem sdP_next {p : List Int} {k : Nat} (h : k < p.length) (hg : -1 ≤ p.getD k default ∧ p.getD k default ≤ 4) : nxS (sdP p k) (p.getD k default) = sdP p (k + 1) := by
  unfold nxS sdP lstP
  rw [if_neg (show ¬ k + 1 = 0 by omega), Nat.add_sub_cancel]
  simp only [Sd.mk.injEq]
  refine ⟨by omega, trivial, ?_⟩
  unfold cnP
  rw [cnG_add h, cnG_add h, cnG_add h, cnG_add h, cnG_add h]
  rcases (show p.getD k default = -1 ∨ p.getD k default = 0 ∨ p.getD k default = 1 ∨ p.getD k default = 2 ∨ p.getD k default = 3 ∨ p.getD k default = 4 by omega) with e | e | e | e | e | e <;> rw [e] <;> simp [Cn.up]
def leM (t : Tt) (p : List Int) (k : Nat) : Prop := ∀ g, g < t.groups.length → (cnG p k (g : Int) : Int) ≤ (t.groups.getD g default).most
theorem leM_zero {t : Tt} (ht : ttOk t = true) {p : List Int} : leM t p 0 := fun g hg => by
  rw [cnG_zero]; exact (tt_group ht hg).2.1.1
theorem leM_next {t : Tt} {p : List Int} {k : Nat} (h : leM t p k) (hk : k < p.length) (he : erR t p k = 0) : leM t p (k + 1) := fun g hg => by
  by_cases c : p.getD k default = (g : Int)
  · apply Classical.byContradiction
    intro hn
    exact er_lim c (by omega) he
  · rw [cnG_no hk c]; exact h g hg
theorem erS_R {t : Tt} {p : List Int} {k : Nat} (ht : ttOk t = true) (hp : 0 < k → -1 ≤ p.getD (k - 1) default) (hl : leM t p k) (hk : k < p.length) (hg : -1 ≤ p.getD k default ∧ p.getD k default < t.groups.length) : erS t (sdP p k) (p.getD k default) = erR t p k := by
  have hbig := tt_hours ht
  unfold erS erR sdP
  simp only [Int.toNat_natCast]
  by_cases c : p.getD k default = -1
  · rw [if_pos c, if_pos (by omega)]
  rw [if_neg c, if_neg (show ¬ p.getD k default < 0 by omega)]
  obtain ⟨g, hgg⟩ : ∃ g : Nat, p.getD k default = (g : Int) := ⟨(p.getD k default).toNat, by omega⟩
  rw [hgg, Int.toNat_natCast]
  have hgn : g < t.groups.length := by omega
  by_cases d : mayB (t.groups.getD g default) (t.hours.getD k default) = true
  case neg => rw [if_pos d, if_pos d]
  have dn : ¬ ¬ mayB (t.groups.getD g default) (t.hours.getD k default) = true := fun h => h d
  simp only [if_neg dn]
  rw [cnP_at (by omega), cnG_yes hk hgg]
  have hle := hl g hgn
  by_cases e : (cnG p k (g : Int) : Int) = (t.groups.getD g default).most
  · have e2 : (t.groups.getD g default).most < ((cnG p k (g : Int) + 1 : Nat) : Int) := by omega
    rw [if_pos e, if_pos e2]
  have e2 : ¬ (t.groups.getD g default).most < ((cnG p k (g : Int) + 1 : Nat) : Int) := by omega
  rw [if_neg e, if_neg e2]
  by_cases n : neB t k = true ∧ 0 ≤ p.getD (k - 1) default ∧ ¬ p.getD (k - 1) default = (g : Int)
  · have n1 := neB_iff.1 n.1
    have f : ¬ (lstP p k = -1 ∨ lstP p k = (g : Int)) := by
      unfold lstP
      rw [if_neg (by omega)]
      rintro (h | h)
      · omega
      · exact n.2.2 h
    rw [if_neg f, if_pos n, if_pos n1.2]
  rw [if_neg n]
  by_cases f : lstP p k = -1 ∨ lstP p k = (g : Int)
  · rw [if_pos f]
  rw [if_neg f]
  unfold lstP at f
  have z : ¬ k = 0 := fun z => f (.inl (by rw [if_pos z]))
  rw [if_neg z] at f
  have hp1 := hp (by omega)
  by_cases q : (t.hours.getD k default).day = (t.hours.getD (k - 1) default).day ∧ (t.hours.getD k default).b - (t.hours.getD (k - 1) default).e < t.res
  · exfalso
    refine n ⟨neB_iff.2 ⟨by omega, q⟩, ?_, fun h => f (.inr h)⟩
    have : ¬ p.getD (k - 1) default = -1 := fun h => f (.inl h)
    omega
  · rw [if_neg q]
end Go.Proofs.Ytofbbkacihnjdaa
