/- A part of the proof that the last text ends: what functions of the program do, told by plain data. -/
import Derived.Test.YtohkngiflfkjjaaRG
set_option linter.unusedVariables false
set_option linter.unusedSimpArgs false
namespace Go.Proofs.Ytohkngiflfkjjaa
open Go Go.E
set_option maxRecDepth 100000
set_option maxHeartbeats 16000000
/-! ### The document: an event -/
def finR (s : St) (x : Ev) (r : List Mem × Int) : St × Int := if r.2 = 0 then (⟨r.1, s.evs ++ [x]⟩, 0) else (s, r.2)
def doR (s : St) (x : Ev) : St × Int :=
  if x.kind = 0 then finR s x (joinR s x) else if x.kind = 6 then finR s x (matchR s x)
  else if fnd s.mem x.person < 0 then (s, 4) else finR s x (s.mem.set (fnd s.mem x.person).toNat (oneR (s.mem.getD (fnd s.mem x.person).toNat default) x).1, (oneR (s.mem.getD (fnd s.mem x.person).toNat default) x).2)
end Go.Proofs.Ytohkngiflfkjjaa
