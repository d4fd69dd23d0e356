/- A part of the proof that the last text ends: what functions of the program do, told by plain data. -/
import Derived.Test.YtmajlffglplcnaaDoorMI
set_option linter.unusedVariables false
set_option linter.unusedSimpArgs false
namespace Go.Proofs.YtmajlffglplcnaaDoor
open Go Go.E
set_option maxRecDepth 100000
set_option maxHeartbeats 16000000
def ocX (g : Gam) (e : Int) : Gam := { g with fin := 1 + e % 2, hg := 1 - e / 2, ag := e / 2 }
def ocA (l : List Gam) (es : List Int) (i : Nat) : Gam := if (l.getD i default).fin = 0 ∧ openN l i < es.length then ocX (l.getD i default) (es.getD (openN l i) default) else l.getD i default
def ocK (l : List Gam) (es : List Int) (k : Nat) : List Gam := (List.range l.length).map fun j => if j < k then ocA l es j else l.getD j default
def ocG (l : List Gam) (es : List Int) : List Gam := ocK l es l.length
def ocL (l : Lea) (es : List Int) : Lea := ⟨l.far, ocG l.games es⟩
theorem ocK_len {l : List Gam} {es : List Int} {k : Nat} : (ocK l es k).length = l.length := by simp [ocK]
theorem ocK_at {l : List Gam} {es : List Int} {k j : Nat} (h : j < l.length) : (ocK l es k).getD j default = if j < k then ocA l es j else l.getD j default := by
  rw [at_lt (by rw [ocK_len]; exact h)]; simp [ocK]
theorem openN_mono {l : List Gam} {i : Nat} : ∀ {j : Nat}, i ≤ j → j ≤ l.length → openN l i ≤ openN l j := fun {j} h1 _ => by
  unfold openN
  rw [show j = i + (j - i) by omega, List.take_add, List.countP_append]
  omega
end Go.Proofs.YtmajlffglplcnaaDoor
