/- A part of the proof that the last text ends: what functions of the program do, told by plain data. -/
import Derived.Test.YtohkngiflfkjjaaQG
set_option linter.unusedVariables false
set_option linter.unusedSimpArgs false
namespace Go.Proofs.Ytohkngiflfkjjaa
open Go Go.E
set_option maxRecDepth 100000
/-! ### Back: passes day by day, and matches day by day -/
def psE (p d : Int) (q : Nat) : List Ev := (List.range q).map fun i : Nat => ⟨d + (i : Int) + 1, 4, p, 0, []⟩
def msE (c d : Int) (q : Nat) : List Ev := (List.range q).map fun i : Nat => ⟨d + (i : Int) + 1, 6, 0, c, []⟩
theorem psE_succ {p d : Int} {q : Nat} : psE p d (q + 1) = psE p d q ++ [⟨d + (q : Int) + 1, 4, p, 0, []⟩] := by
  unfold psE; rw [List.range_succ, List.map_append]; rfl
theorem msE_succ {c d : Int} {q : Nat} : msE c d (q + 1) = msE c d q ++ [⟨d + (q : Int) + 1, 6, 0, c, []⟩] := by
  unfold msE; rw [List.range_succ, List.map_append]; rfl
theorem psE_len {p d : Int} {q : Nat} : (psE p d q).length = q := by simp [psE]
theorem msE_len {c d : Int} {q : Nat} : (msE c d q).length = q := by simp [msE]
def lastD (l : List Ev) : Int := if 0 < l.length then (l.getD (l.length - 1) default).day else 0
theorem Good.days {l : List Ev} (h : Good l) : ∀ j, j < l.length → (l.getD j default).day ≤ lastD l := fun j hj => by
  unfold lastD
  rw [if_pos (by omega)]
  have key : ∀ n, j + n < l.length → (l.getD j default).day ≤ (l.getD (j + n) default).day := fun n => by
    induction n with
    | zero => intro _; exact Int.le_refl _
    | succ n ih =>
      intro hn
      have h1 := ih (by omega)
      have h2 := (h.acc (j + n + 1) (by omega)).2.1 (by omega)
      rw [Nat.add_sub_cancel] at h2
      exact Int.le_trans h1 h2
  have := key (l.length - 1 - j) (by omega)
  rwa [show j + (l.length - 1 - j) = l.length - 1 by omega] at this
theorem Good.last0 {l : List Ev} (h : Good l) : 0 ≤ lastD l ∧ lastD l ≤ 16384 := by
  unfold lastD
  split
  · exact ev_day (h.acc (l.length - 1) (by omega)).1
  · exact ⟨Int.le_refl _, by decide⟩
theorem lateE_last {l : List Ev} {d : Int} (h : lastD l ≤ d) : lateE l d := fun h0 => by unfold lastD at h; rwa [if_pos h0] at h
theorem lastD_snoc {l : List Ev} {x : Ev} : lastD (l ++ [x]) = x.day := by
  unfold lastD
  rw [if_pos (by simp), show (l ++ [x]).length = l.length + 1 by simp, Nat.add_sub_cancel, getD_new]
theorem pass_ok {x : Ev} {p d : Int} (hx : x = ⟨d, 4, p, 0, []⟩) (hd : 0 ≤ d ∧ d ≤ 16384) (hp : 0 ≤ p ∧ p ≤ 4095) : evOk x = true := by
  subst hx
  unfold evOk
  simp [inB]
  exact ⟨hd, hp⟩
theorem clear_ok {p d : Int} (hd : 0 ≤ d ∧ d ≤ 16384) (hp : 0 ≤ p ∧ p ≤ 4095) : evOk ⟨d, 5, p, 0, []⟩ = true := by
  unfold evOk
  simp [inB]
  exact ⟨hd, hp⟩
theorem match_ok {c d : Int} (hd : 0 ≤ d ∧ d ≤ 16384) (hc : 0 ≤ c ∧ c ≤ 255) : evOk ⟨d, 6, 0, c, []⟩ = true := by
  unfold evOk
  simp [inB, shOk, shN]
  exact ⟨hd, hc⟩
/-- The member behind q passes. -/
theorem pass_run {l : List Ev} (h : Good l) {p : Int} {m : Mem} (hm : mo (runR l).1 p = some m) (hp : 0 ≤ p ∧ p ≤ 4095) (hs : 1 ≤ m.stage ∧ m.stage ≤ 6) (hi : 0 ≤ m.since ∧ m.since + 7 ≤ 16384 + m.stage) (hl : l.length ≤ 100) (hd : lastD l ≤ m.since) : ∀ q : Nat, (q : Int) ≤ 6 - m.stage →
    Good (l ++ psE p m.since q) ∧ mo (runR (l ++ psE p m.since q)).1 p = some { m with stage := m.stage + q, since := m.since + q } ∧ lastD (l ++ psE p m.since q) ≤ m.since + q
  | 0, _ => by
    rw [show psE p m.since 0 = [] from rfl, List.append_nil]
    exact ⟨h, by rw [hm]; simp, by simpa using hd⟩
  | q + 1, hq => by
    obtain ⟨h1, h2, h3⟩ := pass_run h hm hp hs hi hl hd q (by omega)
    rw [psE_succ, ← List.append_assoc]
    have hlen : (l ++ psE p m.since q).length < 256 := by rw [List.length_append, psE_len]; omega
    have hx : evOk ⟨m.since + (q : Int) + 1, 4, p, 0, []⟩ = true := pass_ok rfl (by omega) hp
    have hone : oneR { m with stage := m.stage + q, since := m.since + q } ⟨m.since + (q : Int) + 1, 4, p, 0, []⟩ = ({ m with stage := m.stage + q + 1, since := m.since + q + 1 }, 0) := by
      unfold oneR
      simp only
      rw [if_neg (by decide), if_neg (by decide), if_neg (by decide), if_pos (by decide), if_neg (by omega), if_neg (by omega)]
    have ha : AccD (runR (l ++ psE p m.since q)).1 ⟨m.since + (q : Int) + 1, 4, p, 0, []⟩ := by
      unfold AccD
      simp only
      rw [if_neg (by decide), if_neg (by decide)]
      exact ⟨_, h2, by rw [hone]⟩
    have hlate : lateE (l ++ psE p m.since q) (m.since + (q : Int) + 1) := lateE_last (by omega)
    refine ⟨(h1.snoc hlen hx hlate ha).1, ?_, by rw [lastD_snoc]; show m.since + (q : Int) + 1 ≤ _; omega⟩
    rw [h1.mo_snoc hlen hx hlate ha, h2]
    unfold stepM
    simp only
    rw [if_neg (by decide), if_true, if_neg (by decide), Option.map_some, hone]
    simp only [Option.some.injEq, Mem.mk.injEq, true_and]
    omega
theorem clear_run {l : List Ev} (h : Good l) {p : Int} {m : Mem} (hm : mo (runR l).1 p = some m) (hp : 0 ≤ p ∧ p ≤ 4095) (hs : m.stage = 6) (hl : l.length < 200) {d : Int} (hdd : 0 ≤ d ∧ d ≤ 16384) (hd : lastD l ≤ d) : (runR (l ++ [⟨d, 5, p, 0, []⟩])).2.2 = if d ≤ m.since then 11 else 0 := by
  have hx := clear_ok hdd hp
  rw [run_snoc h.ok (by omega) hx (lateE_last hd)]
  obtain ⟨j, hj, h1, h2, h3⟩ := mo_fnd hm
  have hdo : (doR (runR l).1 ⟨d, 5, p, 0, []⟩).2 = if d ≤ m.since then 11 else 0 := by
    unfold doR
    simp only
    rw [if_neg (by decide), if_neg (by decide), if_neg (by omega), h1, Int.toNat_natCast, h2]
    unfold oneR
    simp only
    rw [if_neg (by decide), if_neg (by decide), if_neg (by decide), if_neg (by decide), if_neg (by simpa using hs)]
    unfold finR
    split <;> simp_all
  rw [hdo]
  split
  · rw [if_neg (by decide)]
  · rw [if_pos rfl]
/-- The member behind q matches of the club. -/
theorem match_run {l : List Ev} (h : Good l) {p : Int} {m : Mem} (hm : mo (runR l).1 p = some m) (hc : 0 ≤ m.club ∧ m.club ≤ 255) (hb : 0 ≤ m.ban) (hl : l.length ≤ 100) : ∀ q : Nat, (q : Int) ≤ m.ban → q ≤ 40 → lastD l + q ≤ 16384 →
    Good (l ++ msE m.club (lastD l) q) ∧ mo (runR (l ++ msE m.club (lastD l) q)).1 p = some { m with ban := m.ban - q } ∧ lastD (l ++ msE m.club (lastD l) q) ≤ lastD l + q
  | 0, _, _, _ => by
    rw [show msE m.club (lastD l) 0 = [] from rfl, List.append_nil]
    exact ⟨h, by rw [hm]; simp, by simp⟩
  | q + 1, hq, h40, hmax => by
    obtain ⟨h1, h2, h3⟩ := match_run h hm hc hb hl q (by omega) (by omega) (by omega)
    have hl0 := h.last0
    rw [msE_succ, ← List.append_assoc]
    have hlen : (l ++ msE m.club (lastD l) q).length < 256 := by rw [List.length_append, msE_len]; omega
    have hx : evOk ⟨lastD l + (q : Int) + 1, 6, 0, m.club, []⟩ = true := match_ok (by omega) hc
    have ha : AccD (runR (l ++ msE m.club (lastD l) q)).1 ⟨lastD l + (q : Int) + 1, 6, 0, m.club, []⟩ := by
      unfold AccD
      simp only
      rw [if_neg (by decide), if_pos (by decide)]
      refine ⟨?_, fun q hq => by cases hq⟩
      rw [h1.evs, List.any_eq_false]
      intro y hy
      obtain ⟨j, hj, rfl⟩ := List.getElem_of_mem hy
      have := h1.days j hj
      rw [at_lt hj] at this
      unfold sameE
      rw [decide_eq_false (p := (_ : Int) = lastD l + (q : Int) + 1) (by omega), Bool.and_false, Bool.false_and]
      simp
    have hlate : lateE (l ++ msE m.club (lastD l) q) (lastD l + (q : Int) + 1) := lateE_last (by omega)
    refine ⟨(h1.snoc hlen hx hlate ha).1, ?_, by rw [lastD_snoc]; show lastD l + (q : Int) + 1 ≤ _; omega⟩
    rw [h1.mo_snoc hlen hx hlate ha, h2]
    unfold stepM
    simp only
    rw [if_pos (by decide), Option.map_some]
    unfold gam
    simp only
    rw [if_true]
    simp only [Option.some.injEq, Mem.mk.injEq, true_and, and_true]
    omega
end Go.Proofs.Ytohkngiflfkjjaa
