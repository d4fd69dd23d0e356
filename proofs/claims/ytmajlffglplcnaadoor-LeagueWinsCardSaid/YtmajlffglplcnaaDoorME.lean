/- A part of the proof that the last text ends: what functions of the program do, told by plain data. -/
import Derived.Test.YtmajlffglplcnaaDoorMD
import Derived.Test.YtmajlffglplcnaaDoorEc
set_option linter.unusedVariables false
set_option linter.unusedSimpArgs false
namespace Go.Proofs.YtmajlffglplcnaaDoor
open Go Go.E
set_option maxRecDepth 100000
set_option maxHeartbeats 16000000
structure Std where
  team : Int
  games : Int
  pts : Int
  gf : Int
  ga : Int
  deriving Inhabited, DecidableEq
abbrev Std.c (s : Std) : List D := [.i s.team, .i s.games, .i s.pts, .i s.gf, .i s.ga]
abbrev Std.av (s : Std) : List AV := [.i s.team, .i s.games, .i s.pts, .i s.gf, .i s.ga]
theorem Std.inj {a b : Std} (h : a.c = b.c) : a = b := by cases a; cases b; simp at h; simp [h]
theorem stds_inj {a b : List Std} : (a.map Std.c = b.map Std.c) = (a = b) := inj_map fun _ _ h => Std.inj h
theorem std_inj {a b : Std} : (a.team = b.team ∧ a.games = b.games ∧ a.pts = b.pts ∧ a.gf = b.gf ∧ a.ga = b.ga) = (a = b) := by cases a; cases b; simp
def inG (g : Gam) (t : Int) : Bool := !decide (g.fin = 0) && hasB g t
def winB (g : Gam) (t : Int) : Bool := decide (g.ag < g.hg) == decide (g.home = t)
def ptG (g : Gam) (t : Int) : Int := if inG g t = false then 0 else if g.fin = 1 ∧ winB g t = true then 3 else if g.fin = 2 ∧ winB g t = true then 2 else if g.fin = 2 then 1 else 0
def addG (s : Std) (g : Gam) : Std := if inG g s.team = false then s else if g.home = s.team then ⟨s.team, s.games + 1, s.pts + ptG g s.team, s.gf + g.hg, s.ga + g.ag⟩ else ⟨s.team, s.games + 1, s.pts + ptG g s.team, s.gf + g.ag, s.ga + g.hg⟩
def stN (l : List Gam) (t : Int) (k : Nat) : Std := (l.take k).foldl addG ⟨t, 0, 0, 0, 0⟩
def stF (l : List Gam) (t : Int) : Std := stN l t l.length
theorem stN_zero {l : List Gam} {t : Int} : stN l t 0 = ⟨t, 0, 0, 0, 0⟩ := by simp [stN]
theorem stN_succ {l : List Gam} {t : Int} {k : Nat} (h : k < l.length) : stN l t (k + 1) = addG (stN l t k) (l.getD k default) := by
  unfold stN; rw [take_succ h, List.foldl_append]; rfl
theorem addG_team {s : Std} {g : Gam} : (addG s g).team = s.team := by
  by_cases h : inG g s.team = false
  · unfold addG; rw [if_pos h]
  · unfold addG; rw [if_neg h]; split <;> rfl
theorem stN_team {l : List Gam} {t : Int} : ∀ k, k ≤ l.length → (stN l t k).team = t
  | 0, _ => by rw [stN_zero]
  | k + 1, h => by rw [stN_succ (by omega), addG_team, stN_team k (by omega)]
theorem ptG_b (g : Gam) (t : Int) : 0 ≤ ptG g t ∧ ptG g t ≤ 3 := by
  unfold ptG; repeat' split
  all_goals omega
theorem gm_goals {g : Gam} {n : Int} (h : gmOk g n = true) : g.fin = 0 ∨ ((0 ≤ g.hg ∧ g.hg ≤ 99) ∧ (0 ≤ g.ag ∧ g.ag ≤ 99) ∧ g.hg ≠ g.ag) := by
  unfold gmOk at h
  simp only [Bool.and_eq_true, Bool.or_eq_true, decide_eq_true_eq, inB_iff, Bool.not_eq_true', decide_eq_false_iff_not] at h
  obtain ⟨_, _, _, _, _, h | ⟨h1, h2, h3⟩⟩ := h
  · exact .inl h
  · exact .inr ⟨h1, h2, h3⟩
theorem gm_teams {g : Gam} {n : Int} (h : gmOk g n = true) : (0 ≤ g.home ∧ g.home ≤ n - 1) ∧ (0 ≤ g.away ∧ g.away ≤ n - 1) ∧ g.home ≠ g.away ∧ (0 ≤ g.fin ∧ g.fin ≤ 2) ∧ 0 ≤ g.day ∧ g.day ≤ 16384 := by
  unfold gmOk at h
  simp only [Bool.and_eq_true, Bool.or_eq_true, decide_eq_true_eq, inB_iff, Bool.not_eq_true', decide_eq_false_iff_not] at h
  obtain ⟨h1, h2, h3, h4, h5, _⟩ := h
  exact ⟨h2, h3, h4, h5, h1⟩
def gsOk (l : List Gam) : Prop := l.length ≤ 64 ∧ ∀ g ∈ l, g.fin = 0 ∨ ((0 ≤ g.hg ∧ g.hg ≤ 99) ∧ (0 ≤ g.ag ∧ g.ag ≤ 99) ∧ g.hg ≠ g.ag)
theorem gsOk.at {l : List Gam} (h : gsOk l) {k : Nat} (hk : k < l.length) : (l.getD k default).fin = 0 ∨ ((0 ≤ (l.getD k default).hg ∧ (l.getD k default).hg ≤ 99) ∧ (0 ≤ (l.getD k default).ag ∧ (l.getD k default).ag ≤ 99) ∧ (l.getD k default).hg ≠ (l.getD k default).ag) := by
  rw [at_lt hk]; exact h.2 _ (List.getElem_mem _)
theorem lea_gs {l : Lea} (h : leaOk l = true) : gsOk l.games := by
  refine ⟨lea_games h, fun g hg => ?_⟩
  unfold leaOk at h
  simp only [Bool.and_eq_true] at h
  exact gm_goals (List.all_eq_true.1 h.2.2.2.1 g hg)
def StB (s : Std) (k : Int) : Prop := (0 ≤ s.games ∧ s.games ≤ k) ∧ (0 ≤ s.pts ∧ s.pts ≤ 3 * k) ∧ (0 ≤ s.gf ∧ s.gf ≤ 99 * k) ∧ 0 ≤ s.ga ∧ s.ga ≤ 99 * k
theorem addG_b {s : Std} {g : Gam} {k : Int} (hs : StB s k) (hk : 0 ≤ k) (hg : g.fin = 0 ∨ ((0 ≤ g.hg ∧ g.hg ≤ 99) ∧ (0 ≤ g.ag ∧ g.ag ≤ 99) ∧ g.hg ≠ g.ag)) : StB (addG s g) (k + 1) := by
  unfold StB at *
  have hp := ptG_b g s.team
  unfold addG
  split
  · omega
  · rename_i hi
    have hf : g.fin ≠ 0 := fun h => hi (by simp [inG, h])
    split <;> (dsimp only; omega)
theorem stN_b {l : List Gam} {t : Int} (h : gsOk l) : ∀ k : Nat, k ≤ l.length → StB (stN l t k) k
  | 0, _ => by rw [stN_zero]; unfold StB; simp
  | k + 1, hk => by
    rw [stN_succ (by omega)]
    exact addG_b (stN_b h k (by omega)) (by omega) (h.at (by omega))
theorem addG_skip {s : Std} {g : Gam} (h : inG g s.team = false) : addG s g = s := by unfold addG; rw [if_pos h]
theorem addG_home {s : Std} {g : Gam} (h : inG g s.team = true) (h1 : g.home = s.team) : addG s g = ⟨s.team, s.games + 1, s.pts + ptG g s.team, s.gf + g.hg, s.ga + g.ag⟩ := by unfold addG; rw [if_neg (by simp [h]), if_pos h1]
theorem addG_away {s : Std} {g : Gam} (h : inG g s.team = true) (h1 : ¬ g.home = s.team) : addG s g = ⟨s.team, s.games + 1, s.pts + ptG g s.team, s.gf + g.ag, s.ga + g.hg⟩ := by unfold addG; rw [if_neg (by simp [h]), if_neg h1]
theorem inG_fin {g : Gam} {t : Int} (h : g.fin = 0) : inG g t = false := by simp [inG, h]
theorem inG_home {g : Gam} {t : Int} (h : ¬ g.fin = 0) (h1 : g.home = t) : inG g t = true := by simp [inG, hasB, h, h1]
theorem inG_away {g : Gam} {t : Int} (h : ¬ g.fin = 0) (h1 : g.away = t) : inG g t = true := by simp [inG, hasB, h, h1]
theorem inG_no {g : Gam} {t : Int} (h1 : ¬ g.home = t) (h2 : ¬ g.away = t) : inG g t = false := by simp [inG, hasB, h1, h2]
end Go.Proofs.YtmajlffglplcnaaDoor
