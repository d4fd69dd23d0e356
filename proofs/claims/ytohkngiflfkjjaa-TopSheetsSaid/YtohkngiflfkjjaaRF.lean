/- A part of the proof that the last text ends: what functions of the program do, told by plain data. -/
import Derived.Test.YtohkngiflfkjjaaRE
set_option linter.unusedVariables false
set_option linter.unusedSimpArgs false
namespace Go.Proofs.Ytohkngiflfkjjaa
open Go Go.E
set_option maxRecDepth 100000
set_option maxHeartbeats 16000000
/-! ### The document: who comes -/
theorem fndN_cases {l : List Mem} {p : Int} : ∀ (k i : Nat), i + k = l.length → (fndN l p k i = -1 ∧ ∀ j, i ≤ j → j < l.length → (l.getD j default).person ≠ p) ∨ ∃ j : Nat, j < l.length ∧ fndN l p k i = (j : Int) ∧ (l.getD j default).person = p
  | 0, i, h => .inl ⟨rfl, fun j h1 h2 => absurd h2 (by omega : ¬ j < l.length)⟩
  | k + 1, i, h => by
    unfold fndN
    by_cases c : (l.getD i default).person = p
    · rw [if_pos c]; exact .inr ⟨i, (by omega : i < l.length), rfl, c⟩
    · rw [if_neg c]
      rcases fndN_cases (l := l) (p := p) k (i + 1) (by omega) with ⟨h1, h2⟩ | h1
      · refine .inl ⟨h1, fun j h3 h4 => ?_⟩
        rcases Nat.eq_or_lt_of_le h3 with h5 | h5
        · rw [← h5]; exact c
        · exact h2 j h5 h4
      · exact .inr h1
theorem fnd_cases (l : List Mem) (p : Int) : (fnd l p = -1 ∧ ∀ m ∈ l, m.person ≠ p) ∨ ∃ j : Nat, j < l.length ∧ fnd l p = (j : Int) ∧ (l.getD j default).person = p := by
  rcases fndN_cases (l := l) (p := p) l.length 0 (by omega) with ⟨h1, h2⟩ | h1
  · refine .inl ⟨h1, fun m hm => ?_⟩
    obtain ⟨j, hj, rfl⟩ := List.getElem_of_mem hm
    have := h2 j (by omega) hj
    rwa [at_lt hj] at this
  · exact .inr h1
def clubN (l : List Mem) (c : Int) (k : Nat) : Nat := (l.take k).countP fun m => decide (m.club = c)
def joinR (s : St) (x : Ev) : List Mem × Int :=
  if 0 ≤ fnd s.mem x.person then ([], 5) else if 25 ≤ clubN s.mem x.n s.mem.length then ([], 9) else (insM s.mem ⟨x.person, x.n, 0, 0, 0⟩, 0)
end Go.Proofs.Ytohkngiflfkjjaa
