/- A part of the proof that the last text ends: what functions of the program do, told by plain data. -/
import Derived.Test.YtohkngiflfkjjaaRF
set_option linter.unusedVariables false
set_option linter.unusedSimpArgs false
namespace Go.Proofs.Ytohkngiflfkjjaa
open Go Go.E
set_option maxRecDepth 100000
set_option maxHeartbeats 16000000
/-! ### The document: a match -/
section
variable {α : Type} [Inhabited α] {f : α → α} {l : List α} {k : Nat}
end
def MemsOk (l : List Mem) : Prop := l.length ≤ 1000 ∧ ∀ m ∈ l, (0 ≤ m.ban ∧ m.ban ≤ 100000) ∧ 0 ≤ m.stage ∧ m.stage ≤ 6
def sameE (d n : Int) (y : Ev) : Bool := decide (y.kind = 6) && decide (y.day = d) && decide (y.n = n)
def chkN (l : List Mem) (evs : List Ev) (n d : Int) (sh : List Int) : Nat → Nat → Int
  | 0, _ => 0
  | k + 1, i => if fnd l (sh.getD i default) < 0 then 4 else if ¬ (l.getD (fnd l (sh.getD i default)).toNat default).club = n then 4
    else if why evs (l.getD (fnd l (sh.getD i default)).toNat default) d = [] then chkN l evs n d sh k (i + 1) else 11
theorem chkN_pos {l : List Mem} {evs : List Ev} {n d : Int} {sh : List Int} : ∀ {k i : Nat}, 0 ≤ chkN l evs n d sh k i
  | 0, _ => by simp [chkN]
  | k + 1, i => by
    unfold chkN
    split
    · omega
    · split
      · omega
      · split
        · exact chkN_pos
        · omega
def gam (n : Int) (m : Mem) : Mem := if m.club = n then { m with ban := max 0 (m.ban - 1) } else m
def matchR (s : St) (x : Ev) : List Mem × Int :=
  if s.evs.any (sameE x.day x.n) = true then ([], 5) else if 0 < chkN s.mem s.evs x.n x.day x.sheet x.sheet.length 0 then ([], chkN s.mem s.evs x.n x.day x.sheet x.sheet.length 0) else (s.mem.map (gam x.n), 0)
end Go.Proofs.Ytohkngiflfkjjaa
