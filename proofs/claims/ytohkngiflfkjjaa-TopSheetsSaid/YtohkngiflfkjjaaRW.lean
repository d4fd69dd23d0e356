/- A part of the proof that the last text ends: what functions of the program do, told by plain data. -/
import Derived.Test.YtohkngiflfkjjaaRV
import Derived.Test.YtohkngiflfkjjaaEc
set_option linter.unusedVariables false
set_option linter.unusedSimpArgs false
namespace Go.Proofs.Ytohkngiflfkjjaa
open Go Go.E Go.Maps
set_option maxRecDepth 100000
set_option maxHeartbeats 16000000
/-! ### What the laws look at, and what the document fixes -/
def w1 : List Int := [1]
def a5 : List Int := [5]
def evN (a b c d : Int) : List D := [.i a, .i b, .i c, .i d, .v (.slice none 0 0)]
theorem evN_deep {a b c d : Int} : NilDs (evN a b c d) (Ev.c ⟨a, b, c, d, []⟩) := .cons (.refl _) (.cons (.refl _) (.cons (.refl _) (.cons (.refl _) (.cons (.nil 1) (.refl _)))))
theorem fl_b : (D.b true).flat = true := id rfl
theorem c4 : callable Try.prog 4 = true := by kernel_rfl
theorem c5 : callable Try.prog 5 = true := by kernel_rfl
end Go.Proofs.Ytohkngiflfkjjaa
