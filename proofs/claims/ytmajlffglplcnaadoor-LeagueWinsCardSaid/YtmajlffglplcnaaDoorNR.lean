/- A part of the proof that the last text ends: what functions of the program do, told by plain data. -/
import Derived.Test.YtmajlffglplcnaaDoorNO
set_option linter.unusedVariables false
set_option linter.unusedSimpArgs false
namespace Go.Proofs.YtmajlffglplcnaaDoor
open Go Go.E
def sm (f : Gam → Int) (l : List Gam) : Int := (l.map f).sum
theorem sm_cons {f : Gam → Int} {g : Gam} {l : List Gam} : sm f (g :: l) = f g + sm f l := by simp [sm]
def gmG (t : Int) (g : Gam) : Int := if inG g t = true then 1 else 0
def gfG (t : Int) (g : Gam) : Int := if inG g t = true then (if g.home = t then g.hg else g.ag) else 0
def gaG (t : Int) (g : Gam) : Int := if inG g t = true then (if g.home = t then g.ag else g.hg) else 0
theorem addG_sum (s : Std) (g : Gam) : addG s g = ⟨s.team, s.games + gmG s.team g, s.pts + ptG g s.team, s.gf + gfG s.team g, s.ga + gaG s.team g⟩ := by
  unfold addG gmG gfG gaG
  by_cases c : inG g s.team = true
  · rw [if_neg (by simp [c])]
    by_cases d : g.home = s.team
    · simp [c, d]
    · simp [c, d]
  · have c' : inG g s.team = false := by simpa using c
    have hp : ptG g s.team = 0 := by unfold ptG; rw [if_pos c']
    rw [if_pos c', hp]
    simp [c]
theorem fold_sum : ∀ (l : List Gam) (s : Std), l.foldl addG s = ⟨s.team, s.games + sm (gmG s.team) l, s.pts + sm (fun g => ptG g s.team) l, s.gf + sm (gfG s.team) l, s.ga + sm (gaG s.team) l⟩
  | [], s => by simp [sm]
  | g :: l, s => by
    rw [List.foldl_cons, fold_sum l, addG_team, addG_sum]
    simp only [sm_cons, Std.mk.injEq, true_and]
    omega
theorem stF_sum (l : List Gam) (t : Int) : stF l t = ⟨t, sm (gmG t) l, sm (fun g => ptG g t) l, sm (gfG t) l, sm (gaG t) l⟩ := by
  unfold stF stN
  rw [List.take_length, fold_sum]
  simp
def swG (g : Gam) : Gam := ⟨g.day, g.away, g.home, g.fin, g.ag, g.hg⟩
def turG (g : Gam) (k : Nat) : Gam := if k % 2 = 0 then swG g else g
def othN (l : List Gam) (u k : Nat) : List Gam := (List.range k).map fun i => turG (l.getD ((i + u) % l.length) default) (i + u)
def othL (l : Lea) (u : Nat) : Lea := ⟨l.far, othN l.games u l.games.length⟩
end Go.Proofs.YtmajlffglplcnaaDoor
