/- A part of the proof that the last text ends: what functions of the program do, told by plain data. -/
import Derived.Test.YtmajlffglplcnaaDoorNC
set_option linter.unusedVariables false
set_option linter.unusedSimpArgs false
namespace Go.Proofs.YtmajlffglplcnaaDoor
open Go Go.E
theorem lea_sub {l : Lea} (h : leaOk l = true) {G : List Gam} (hG : ∀ g ∈ G, g ∈ l.games) (hn : G.length ≤ 64) (ho : openN G G.length ≤ 8) : leaOk ⟨l.far, G⟩ = true := by
  unfold leaOk at h ⊢
  simp only [Bool.and_eq_true, decide_eq_true_eq, List.all_eq_true] at h ⊢
  exact ⟨h.1, by omega, h.2.2.1, fun g hg => h.2.2.2.1 g (hG g hg), by omega⟩
end Go.Proofs.YtmajlffglplcnaaDoor
