/- A part of the proof that the last text ends: what functions of the program do, told by plain data. -/
import Derived.Test.YtofbbkacihnjdaaIHB
set_option linter.unusedVariables false
set_option linter.unusedSimpArgs false
namespace Go.Proofs.Ytofbbkacihnjdaa
open Go Go.E
set_option maxRecDepth 100000
set_option maxHeartbeats 16000000
def dayB (days day : Int) : Bool := decide (days / (2 ^ day.toNat : Nat) % 2 = 1)
def mayB (g : Gr) (h : Hr) : Bool := dayB g.days h.day && (decide (g.early ≤ h.b) && decide (h.e ≤ g.late))
def neB (t : Tt) (i : Nat) : Bool := decide (0 < i) && (decide ((t.hours.getD i default).day = (t.hours.getD (i - 1) default).day) && decide ((t.hours.getD i default).b - (t.hours.getD (i - 1) default).e < t.res))
theorem tt_hours {t : Tt} (h : ttOk t = true) : t.hours.length ≤ 12 ∧ t.groups.length ≤ 5 ∧ (0 ≤ t.res ∧ t.res ≤ 120) := by
  unfold ttOk at h
  simp only [Bool.and_eq_true, decide_eq_true_eq, inB_iff] at h
  omega
theorem tt_hour {t : Tt} (h : ttOk t = true) {i : Nat} (hi : i < t.hours.length) : (0 ≤ (t.hours.getD i default).day ∧ (t.hours.getD i default).day ≤ 6) ∧ 0 ≤ (t.hours.getD i default).b ∧ (t.hours.getD i default).b < (t.hours.getD i default).e ∧ (t.hours.getD i default).e ≤ 1440 := by
  unfold ttOk at h
  simp only [Bool.and_eq_true] at h
  have := List.all_eq_true.1 h.2.2.2.2 i (List.mem_range.2 hi)
  unfold hrAt hrOk at this
  simp only [Bool.and_eq_true, Bool.not_eq_true', decide_eq_false_iff_not, inB_iff] at this
  omega
theorem tt_group {t : Tt} (h : ttOk t = true) {i : Nat} (hi : i < t.groups.length) : (0 ≤ (t.groups.getD i default).days ∧ (t.groups.getD i default).days ≤ 127) ∧ (0 ≤ (t.groups.getD i default).most ∧ (t.groups.getD i default).most ≤ 12) ∧ 0 ≤ (t.groups.getD i default).cred ∧ (t.groups.getD i default).cred ≤ 1000 := by
  unfold ttOk at h
  simp only [Bool.and_eq_true] at h
  have := all_get.1 h.2.2.2.1 i hi
  unfold grOk at this
  simp only [Bool.and_eq_true, inB_iff] at this
  omega
def erR (t : Tt) (p : List Int) (i : Nat) : Int :=
  if p.getD i default < 0 then 0
  else if ¬ mayB (t.groups.getD (p.getD i default).toNat default) (t.hours.getD i default) = true then 11
  else if (t.groups.getD (p.getD i default).toNat default).most < (cnG p (i + 1) (p.getD i default) : Int) then 12
  else if neB t i = true ∧ 0 ≤ p.getD (i - 1) default ∧ ¬ p.getD (i - 1) default = p.getD i default then 6
  else 0
def foP (t : Tt) (p : List Int) : Prop := ∀ j, j < p.length → -1 ≤ p.getD j default ∧ p.getD j default < t.groups.length
end Go.Proofs.Ytofbbkacihnjdaa
