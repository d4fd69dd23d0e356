/- A part of the proof that the last text ends: what functions of the program do, told by plain data. -/
import Derived.Test.YtofbbkacihnjdaaIHF
set_option linter.unusedVariables false
set_option linter.unusedSimpArgs false
namespace Go.Proofs.Ytofbbkacihnjdaa
open Go Go.E Go.Maps
set_option maxRecDepth 100000
set_option maxHeartbeats 16000000
theorem er_neg {t : Tt} {p : List Int} {i : Nat} (h : p.getD i default < 0) : erR t p i = 0 := by unfold erR; rw [if_pos h]
theorem er_lim {t : Tt} {p : List Int} {i g : Nat} (h : p.getD i default = (g : Int)) (h2 : (t.groups.getD g default).most < (cnG p (i + 1) (g : Int) : Int)) : erR t p i ≠ 0 := by
  unfold erR; rw [h, if_neg (by omega), Int.toNat_natCast]
  by_cases h1 : mayB (t.groups.getD g default) (t.hours.getD i default) = true
  · rw [if_neg (fun c => c h1), if_pos h2]; decide
  · rw [if_pos h1]; decide
theorem neB_iff {t : Tt} {i : Nat} : neB t i = true ↔ 0 < i ∧ (t.hours.getD i default).day = (t.hours.getD (i - 1) default).day ∧ (t.hours.getD i default).b - (t.hours.getD (i - 1) default).e < t.res := by
  unfold neB; simp only [Bool.and_eq_true, decide_eq_true_eq]
end Go.Proofs.Ytofbbkacihnjdaa
