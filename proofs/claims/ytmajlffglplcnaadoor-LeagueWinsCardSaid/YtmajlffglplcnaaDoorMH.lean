/- A part of the proof that the last text ends: what functions of the program do, told by plain data. -/
import Derived.Test.YtmajlffglplcnaaDoorMG
set_option linter.unusedVariables false
set_option linter.unusedSimpArgs false
namespace Go.Proofs.YtmajlffglplcnaaDoor
open Go Go.E
set_option maxRecDepth 100000
set_option maxHeartbeats 16000000
theorem lea_gm {l : Lea} (h : leaOk l = true) {k : Nat} (hk : k < l.games.length) : gmOk (l.games.getD k default) l.far.length = true := by
  unfold leaOk at h
  simp only [Bool.and_eq_true] at h
  exact all_get.1 h.2.2.2.1 k hk
theorem lea_row {l : Lea} (h : leaOk l = true) {k : Nat} (hk : k < l.far.length) : rowOk l.far.length (l.far.getD k default) = true := by
  unfold leaOk at h
  simp only [Bool.and_eq_true] at h
  exact all_get.1 h.2.2.1 k hk
def fr (far : List (List Int)) (a b : Int) : Int := (far.getD a.toNat default).getD b.toNat default
def trG (far : List (List Int)) (t : Int) (s : Int × Int) (g : Gam) : Int × Int := if hasB g t = true then (s.1 + fr far s.2 g.home, g.home) else s
def trN (l : Lea) (t : Int) (k : Nat) : Int × Int := (l.games.take k).foldl (trG l.far t) (0, t)
def trF (l : Lea) (t : Int) : Int := (trN l t l.games.length).1 + fr l.far (trN l t l.games.length).2 t
def trR (l : Lea) (t : Int) : Int × Int := if leaOk l = true then (if inB t 0 ((l.far.length : Int) - 1) = true then (trF l t, 0) else (0, 2)) else (0, 1)
theorem trN_zero {l : Lea} {t : Int} : trN l t 0 = (0, t) := by simp [trN]
theorem trN_succ {l : Lea} {t : Int} {k : Nat} (h : k < l.games.length) : trN l t (k + 1) = trG l.far t (trN l t k) (l.games.getD k default) := by
  unfold trN; rw [take_succ h, List.foldl_append]; rfl
theorem fr_b {l : Lea} (h : leaOk l = true) {a b : Int} (ha : 0 ≤ a ∧ a < l.far.length) (hb : 0 ≤ b ∧ b < l.far.length) : (0 ≤ fr l.far a b ∧ fr l.far a b ≤ 100000) ∧ (l.far.getD a.toNat default).length = l.far.length := by
  have h1 := lea_row h (k := a.toNat) (by omega)
  unfold rowOk at h1
  rw [Bool.and_eq_true, decide_eq_true_eq] at h1
  have h2 := all_get.1 h1.2 b.toNat (by omega)
  rw [inB_iff] at h2
  exact ⟨h2, by omega⟩
theorem trN_b {l : Lea} (h : leaOk l = true) {t : Int} (ht : 0 ≤ t ∧ t < l.far.length) : ∀ k : Nat, k ≤ l.games.length → (0 ≤ (trN l t k).1 ∧ (trN l t k).1 ≤ 100000 * k) ∧ (0 ≤ (trN l t k).2 ∧ (trN l t k).2 < l.far.length)
  | 0, _ => by rw [trN_zero]; exact ⟨⟨by simp, by simp⟩, ht⟩
  | k + 1, hk => by
    rw [trN_succ (by omega)]
    have ih := trN_b h ht k (by omega)
    have hg := gm_teams (lea_gm h (k := k) (by omega))
    have hf := (fr_b h ih.2 (b := (l.games.getD k default).home) (by omega)).1
    unfold trG
    split
    · dsimp only; omega
    · omega
end Go.Proofs.YtmajlffglplcnaaDoor
