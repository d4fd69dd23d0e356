/- A part of the proof that the last text ends: what functions of the program do, told by plain data. -/
import Derived.Test.YtmajlffglplcnaaDoorMK
set_option linter.unusedVariables false
set_option linter.unusedSimpArgs false
namespace Go.Proofs.YtmajlffglplcnaaDoor
open Go Go.E
set_option maxRecDepth 100000
set_option maxHeartbeats 16000000
theorem lf_open {l : List Gam} : ∀ {k : Nat}, lfN l (-1) k = openN l k := fun {k} => by
  unfold lfN openN lfB
  congr 1
  funext g
  simp
def outO (l : Lea) : List (List Int) := outsL (lfF l.games (-1)) []
def isN (l : Lea) (t p : Int) (O : List (List Int)) (k : Nat) : Bool := (O.take k).all fun es => decide (saF (ocL l es) t < p)
def ntN (l : Lea) (t p : Int) (O : List (List Int)) (k : Nat) : Bool := (O.take k).all fun es => decide (p ≤ moF (ocL l es) t)
def clR (l : Lea) (t p : Int) : Bool × Bool × Int := if errR l t p = 0 then (isN l t p (outO l) (outO l).length, ntN l t p (outO l) (outO l).length, 0) else (false, false, errR l t p)
theorem err_ok {l : Lea} {t p : Int} (h : errR l t p = 0) : leaOk l = true ∧ (0 ≤ t ∧ t < l.far.length) ∧ 1 ≤ p ∧ p ≤ l.far.length := by
  unfold errR at h
  split at h
  · rename_i h1
    split at h
    · rename_i h2
      rw [inB_iff, inB_iff] at h2
      exact ⟨h1, by omega, h2.2⟩
    · cases h
  · cases h
def ndS (l : Lea) (t p : Int) (n : Int) (es : List Int) : Int := if p ≤ saF (ocL l es) t then max n ((stF (ocL l es).games t).pts - (stF l.games t).pts + 1) else n
def ndN (l : Lea) (t p : Int) (O : List (List Int)) (k : Nat) : Int := (O.take k).foldl (ndS l t p) 0
def ndR (l : Lea) (t p : Int) : Int × Int := if errR l t p = 0 then (if 3 * (lfF l.games t : Int) < ndN l t p (outO l) (outO l).length then (0, 4) else (ndN l t p (outO l) (outO l).length, 0)) else (0, errR l t p)
end Go.Proofs.YtmajlffglplcnaaDoor
