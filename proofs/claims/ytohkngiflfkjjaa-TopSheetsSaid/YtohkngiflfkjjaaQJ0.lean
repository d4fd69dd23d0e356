/- A part of the proof that the last text ends: what functions of the program do, told by plain data. -/
import Derived.Test.YtohkngiflfkjjaaQC
set_option linter.unusedVariables false
set_option linter.unusedSimpArgs false
namespace Go.Proofs.Ytohkngiflfkjjaa
open Go Go.E Go.Maps
set_option maxRecDepth 100000
set_option maxHeartbeats 16000000
theorem NilRs.app : ∀ {a a' b b' : List (List D)}, NilRs a a' → NilRs b b' → NilRs (a ++ b) (a' ++ b')
  | [], _, _, _, .refl _, k => k
  | x :: a, _, _, _, .refl _, k => .cons (.refl x) (NilRs.app (.refl a) k)
  | _, _, _, _, .cons h h', k => .cons h (NilRs.app h' k)
theorem PFn_arg {P : Program} {f : Nat} {ds ds' : List D} {R : Go.E.End → Prop} (h : NilDs ds ds') (k : PFn P f ds' R) : PFn P f ds R :=
  ⟨k.1, fun F w vs hd => k.2 F w vs (NilDs.reps h hd)⟩
def sp12 (args : List AV) (K : AV → List AV → Sto → Prop) (e : List AV) (s : Sto) : Prop :=
  entn (α := List (List D) × List Ev) (fun a => [.sl 5 a.1]) (fun a => NilRs a.1 (a.2.map Ev.c) ∧ ShsOk a.2) (fun a => .tup [.sl 5 ((playR a.2).1.map Mem.c), .i (playR a.2).2.1, .i (playR a.2).2.2]) args K e s
theorem sp12_ok {args : List AV} {K : AV → List AV → Sto → Prop} {Q : Kt} {e : List AV} {s : Sto} (h : sp12 args K e s) : pcall Try.prog 12 args K Q e s :=
  entn_ok (fun a h => PFn_arg (.cons (.sl h.1) (.refl _)) (pf12 a.2 h.2)) h
theorem shs_app {l r : List Ev} (h : ShsOk l) (hr : r.length ≤ 50) (h0 : ∀ x ∈ r, x.sheet.length ≤ 100) (hl : l.length ≤ 1000 := by omega) : ShsOk (l ++ r) := by
  refine ⟨by rw [List.length_append]; omega, fun x hx => ?_⟩
  rcases List.mem_append.1 hx with hx | hx
  · exact h.2 x hx
  · have := h0 x hx; omega
end Go.Proofs.Ytohkngiflfkjjaa
