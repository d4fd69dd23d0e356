/- A part of the proof that the last text ends: what functions of the program do, told by plain data. -/
import Derived.Test.YtofbbkacihnjdaaDoorHY
set_option linter.unusedVariables false
set_option linter.unusedSimpArgs false
namespace Go.Proofs.YtofbbkacihnjdaaDoor
open Go Go.E Go.Maps
set_option maxRecDepth 100000
set_option maxHeartbeats 4000000
def sp9 (args : List AV) (K : AV → List AV → Sto → Prop) (e : List AV) (s : Sto) : Prop := args = [] ∧ s.get 5000000001 = some [.d (.ptr gtb 0)] ∧ K (.d (.b true)) e s
theorem sp9_ok {args : List AV} {K : AV → List AV → Sto → Prop} {Q : Kt} {e : List AV} {s : Sto} (h : sp9 args K e s) : pcall Tryd.prog 9 args K Q e s := by
  obtain ⟨rfl, h2, h⟩ := h
  exact pcall_dG (ds := []) pf9 h2 (fun d hd => by cases hd; exact h) (fun c hc => by cases hc)
theorem call9x {C : CT} {args e : List AV} {s : Sto} {K : AV → List AV → Sto → Prop} {Q : Kt} {i : At K} {j : At Q} (hC : ∀ {args K Q e s} {i : At K} {j : At Q}, xC C 9 args K Q i j e s = sp9 args K e s) (h1 : args = []) (h2 : s.get 5000000001 = some [.d (.ptr gtb 0)]) (h3 : K (.d (.b true)) e s) : xC C 9 args K Q i j e s := by
  rw [hC]; exact ⟨h1, h2, h3⟩
theorem c3 : callable Tryd.prog 3 = true := by kernel_rfl
end Go.Proofs.YtofbbkacihnjdaaDoor
