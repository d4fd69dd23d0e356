/- A part of the proof that the last text ends: what functions of the program do, told by plain data. -/
import Derived.Test.YtohkngiflfkjjaaRC
set_option linter.unusedVariables false
set_option linter.unusedSimpArgs false
namespace Go.Proofs.Ytohkngiflfkjjaa
open Go Go.E
set_option maxRecDepth 100000
set_option maxHeartbeats 8000000
/-! ### The document: who there is, who has played -/
section
variable {α : Type} [Inhabited α] {q : α → Bool} {l : List α}
end
def fndN (l : List Mem) (p : Int) : Nat → Nat → Int
  | 0, _ => -1
  | k + 1, i => if (l.getD i default).person = p then (i : Int) else fndN l p k (i + 1)
def fnd (l : List Mem) (p : Int) : Int := fndN l p l.length 0
def hitE (p d : Int) (x : Ev) : Bool := decide (x.kind = 6) && decide (x.day = d) && x.sheet.any fun y => decide (y = p)
def plB (l : List Ev) (p d : Int) : Bool := l.any (hitE p d)
def why (l : List Ev) (m : Mem) (d : Int) : List Int := (if 0 < m.ban then [1] else []) ++ ((if 0 < m.stage then [2] else []) ++ (if plB l m.person d = true then [3] else []))
structure St where
  mem : List Mem
  evs : List Ev
  deriving Inhabited, DecidableEq
abbrev St.c (s : St) : List D := [.sl 5 (s.mem.map Mem.c), .sl 5 (s.evs.map Ev.c)]
theorem st_inj {a b : St} : (a.mem = b.mem ∧ a.evs = b.evs) = (a = b) := by cases a; cases b; simp
def oneR (m : Mem) (x : Ev) : Mem × Int :=
  if x.kind = 1 then ({ m with ban := m.ban + x.n }, 0)
  else if x.kind = 2 then ({ m with stage := 1, since := x.day }, 0)
  else if x.kind = 3 then (if m.stage = 0 then (m, 6) else ({ m with stage := 1, since := x.day }, 0))
  else if x.kind = 4 then (if m.stage = 0 ∨ m.stage = 6 then (m, 6) else if x.day ≤ m.since then (m, 11) else ({ m with stage := m.stage + 1, since := x.day }, 0))
  else if ¬ m.stage = 6 then (m, 6) else if x.day ≤ m.since then (m, 11) else ({ m with stage := 0, since := x.day }, 0)
def EvsOk (l : List Ev) : Prop := l.length ≤ 1000 ∧ ∀ x ∈ l, x.sheet.length ≤ 100000
end Go.Proofs.Ytohkngiflfkjjaa
