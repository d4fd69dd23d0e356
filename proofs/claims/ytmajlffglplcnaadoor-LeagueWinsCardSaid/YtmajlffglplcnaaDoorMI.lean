/- A part of the proof that the last text ends: what functions of the program do, told by plain data. -/
import Derived.Test.YtmajlffglplcnaaDoorMH
set_option linter.unusedVariables false
set_option linter.unusedSimpArgs false
namespace Go.Proofs.YtmajlffglplcnaaDoor
open Go Go.E
set_option maxRecDepth 100000
set_option maxHeartbeats 16000000
def errR (l : Lea) (t p : Int) : Int := if leaOk l = true then (if inB t 0 ((l.far.length : Int) - 1) = true ∧ inB p 1 l.far.length = true then 0 else 2) else 1
def lfB (t : Int) (g : Gam) : Bool := decide (g.fin = 0) && (decide (t < 0) || hasB g t)
def lfN (l : List Gam) (t : Int) (k : Nat) : Nat := (l.take k).countP (lfB t)
def lfF (l : List Gam) (t : Int) : Nat := lfN l t l.length
theorem lfN_zero {l : List Gam} {t : Int} : lfN l t 0 = 0 := by simp [lfN]
theorem lfN_yes {l : List Gam} {t : Int} {k : Nat} (h : k < l.length) (c : lfB t (l.getD k default) = true) : lfN l t (k + 1) = lfN l t k + 1 := by
  unfold lfN; rw [take_succ h, List.countP_append, List.countP_singleton, c]; rfl
theorem lfN_no {l : List Gam} {t : Int} {k : Nat} (h : k < l.length) (c : lfB t (l.getD k default) = false) : lfN l t (k + 1) = lfN l t k := by
  unfold lfN; rw [take_succ h, List.countP_append, List.countP_singleton, c]; rfl
theorem lfN_le {l : List Gam} {t : Int} {k : Nat} : lfN l t k ≤ k := by
  unfold lfN; exact Nat.le_trans List.countP_le_length (by simp; omega)
def cnB (f : Nat → Int) (t m : Int) (i : Nat) : Bool := !decide ((i : Int) = t) && decide (m ≤ f i)
def cnN (f : Nat → Int) (t m : Int) (k : Nat) : Nat := (List.range k).countP (cnB f t m)
theorem cnN_yes {f : Nat → Int} {t m : Int} {k : Nat} (h : cnB f t m k = true) : cnN f t m (k + 1) = cnN f t m k + 1 := by
  unfold cnN; rw [List.range_succ, List.countP_append, List.countP_singleton, h]; rfl
theorem cnN_no {f : Nat → Int} {t m : Int} {k : Nat} (h : cnB f t m k = false) : cnN f t m (k + 1) = cnN f t m k := by
  unfold cnN; rw [List.range_succ, List.countP_append, List.countP_singleton, h]; rfl
theorem cnN_le {f : Nat → Int} {t m : Int} {k : Nat} : cnN f t m k ≤ k := by
  unfold cnN; exact Nat.le_trans List.countP_le_length (by simp)
theorem cnB_self {f : Nat → Int} {t m : Int} {i : Nat} (h : (i : Int) = t) : cnB f t m i = false := by unfold cnB; rw [decide_eq_true h]; rfl
theorem cnB_yes {f : Nat → Int} {t m : Int} {i : Nat} (h : ¬ (i : Int) = t) (h2 : m ≤ f i) : cnB f t m i = true := by unfold cnB; rw [decide_eq_false h, decide_eq_true h2]; rfl
theorem cnB_no {f : Nat → Int} {t m : Int} {i : Nat} (h : ¬ (i : Int) = t) (h2 : ¬ m ≤ f i) : cnB f t m i = false := by unfold cnB; rw [decide_eq_false h, decide_eq_false h2]; rfl
def ptsF (l : List Gam) (i : Nat) : Int := (stF l (i : Int)).pts
def saF (l : Lea) (t : Int) : Int := (cnN (ptsF l.games) t (stF l.games t).pts l.far.length : Int)
def moF (l : Lea) (t : Int) : Int := (cnN (ptsF l.games) t ((stF l.games t).pts + 1) l.far.length : Int)
end Go.Proofs.YtmajlffglplcnaaDoor
