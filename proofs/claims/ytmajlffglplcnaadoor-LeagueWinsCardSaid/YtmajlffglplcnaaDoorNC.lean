/- A part of the proof that the last text ends: what functions of the program do, told by plain data. -/
import Derived.Test.YtmajlffglplcnaaDoorNB
set_option linter.unusedVariables false
set_option linter.unusedSimpArgs false
namespace Go.Proofs.YtmajlffglplcnaaDoor
open Go Go.E Go.Maps
set_option maxRecDepth 100000
set_option maxHeartbeats 16000000
theorem lg_no {l : Lea} {m : Int} (h : ¬ lgB l m = true) : l.far.length ≤ 9 ∧ l.games.length ≤ 68 := by
  unfold lgB at h
  split at h
  · exact absurd rfl h
  · rename_i h1
    simp only [Bool.or_eq_true, decide_eq_true_eq, not_or] at h1
    omega
def sp10 (args : List AV) (K : AV → List AV → Sto → Prop) (e : List AV) (s : Sto) : Prop := args = [] ∧ s.get 5000000000 = some [.d (.ptr gpt 0)] ∧ K (.d (.b true)) e s
theorem sp10_ok {args : List AV} {K : AV → List AV → Sto → Prop} {Q : Kt} {e : List AV} {s : Sto} (h : sp10 args K e s) : pcall Tryd.prog 10 args K Q e s := by
  obtain ⟨rfl, h1, h2⟩ := h
  exact pcall_sG pf10 h1 rfl (fun d hd => by cases hd; exact ⟨rfl, h2⟩) (fun c hc => by cases hc)
theorem c3 : callable Tryd.prog 3 = true := by kernel_rfl
theorem c4 : callable Tryd.prog 4 = true := by kernel_rfl
end Go.Proofs.YtmajlffglplcnaaDoor
