/- A part of the proof that the last text ends: what functions of the program do, told by plain data. -/
import Derived.Test.YtmajlffglplcnaaDoorME
set_option linter.unusedVariables false
set_option linter.unusedSimpArgs false
namespace Go.Proofs.YtmajlffglplcnaaDoor
open Go Go.E
set_option maxRecDepth 100000
set_option maxHeartbeats 16000000
def amG (l : List Gam) (t : Int) (g : Gam) : Int := if (stF l g.home).pts = (stF l t).pts ∧ (stF l g.away).pts = (stF l t).pts then ptG g t else 0
def amN (l : List Gam) (t : Int) (k : Nat) : Int := ((l.take k).map (amG l t)).sum
def amF (l : List Gam) (t : Int) : Int := amN l t l.length
theorem amN_zero {l : List Gam} {t : Int} : amN l t 0 = 0 := by simp [amN]
theorem amN_succ {l : List Gam} {t : Int} {k : Nat} (h : k < l.length) : amN l t (k + 1) = amN l t k + amG l t (l.getD k default) := by
  unfold amN; rw [take_succ h, List.map_append, List.sum_append]; simp
theorem amG_b (l : List Gam) (t : Int) (g : Gam) : 0 ≤ amG l t g ∧ amG l t g ≤ 3 := by
  unfold amG; split
  · exact ptG_b g t
  · omega
theorem amN_b {l : List Gam} {t : Int} : ∀ k : Nat, k ≤ l.length → 0 ≤ amN l t k ∧ amN l t k ≤ 3 * k
  | 0, _ => by rw [amN_zero]; omega
  | k + 1, hk => by
    rw [amN_succ (by omega)]
    have h1 := amN_b (l := l) (t := t) k (by omega)
    have h2 := amG_b l t (l.getD k default)
    omega
theorem amG_yes {l : List Gam} {t : Int} {g : Gam} (h1 : (stF l g.home).pts = (stF l t).pts) (h2 : (stF l g.away).pts = (stF l t).pts) : amG l t g = ptG g t := by unfold amG; rw [if_pos ⟨h1, h2⟩]
def ahB (l : List Gam) (a b : Int) : Bool :=
  if (stF l a).pts = (stF l b).pts then
    (if amF l a = amF l b then
      (if (stF l a).gf - (stF l a).ga = (stF l b).gf - (stF l b).ga then
        (if (stF l a).gf = (stF l b).gf then decide (a < b) else decide ((stF l b).gf < (stF l a).gf))
       else decide ((stF l b).gf - (stF l b).ga < (stF l a).gf - (stF l a).ga))
     else decide (amF l b < amF l a))
  else decide ((stF l b).pts < (stF l a).pts)
theorem stF_b {l : List Gam} {t : Int} (h : gsOk l) : StB (stF l t) 64 := by
  have h1 := stN_b (t := t) h l.length (Nat.le_refl _)
  have h2 := h.1
  unfold stF
  unfold StB at *
  omega
theorem amF_b {l : List Gam} {t : Int} (h : gsOk l) : 0 ≤ amF l t ∧ amF l t ≤ 192 := by
  have h1 := amN_b (l := l) (t := t) l.length (Nat.le_refl _)
  have h2 := h.1
  unfold amF; omega
end Go.Proofs.YtmajlffglplcnaaDoor
