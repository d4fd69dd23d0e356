/- A part of the proof that the last text ends: what functions of the program do, told by plain data. -/
import Derived.Test.YtohkngiflfkjjaaQA
set_option linter.unusedVariables false
set_option linter.unusedSimpArgs false
namespace Go.Proofs.Ytohkngiflfkjjaa
open Go Go.E
set_option maxRecDepth 100000
/-! ### Served: a member's numbers, event by event -/
theorem stJ_inv {l : List Ev} (hl : ∀ x ∈ l, x.sheet.length ≤ 100000) : ∀ {j : Nat}, j ≤ l.length → (∀ i, i < j → Acc l i) → InvR j (stJ l j)
  | 0, _, _ => InvR.zero
  | j + 1, hj, h => doR_inv (stJ_inv hl (by omega) fun i hi => h i (by omega)) (h j (by omega)).1 (hl _ (by rw [at_lt (by omega)]; exact List.getElem_mem _)) (h j (by omega)).2.2
def vw (o : Option Mem) : Int × Int × Int × Int := match o with | none => (0, 0, 0, -1) | some m => (m.ban, m.stage, m.since, m.club)
def stepV (x : Ev) (p : Int) (v : Int × Int × Int × Int) : Int × Int × Int × Int :=
  if x.kind = 6 then (if x.n = v.2.2.2 then (max 0 (v.1 - 1), v.2) else v)
  else if x.person = p then (if x.kind = 0 then (v.1, v.2.1, v.2.2.1, x.n) else if x.kind = 1 then (v.1 + x.n, v.2) else if x.kind = 4 then (v.1, v.2.1 + 1, x.day, v.2.2.2) else if x.kind = 5 then (v.1, 0, x.day, v.2.2.2) else (v.1, 1, x.day, v.2.2.2)) else v
theorem one_vw {m : Mem} {x : Ev} (h : (oneR m x).2 = 0) (k0 : x.kind ≠ 0) (k6 : x.kind ≠ 6) (hk : 0 ≤ x.kind ∧ x.kind ≤ 6) : vw (some (oneR m x).1) = (if x.kind = 1 then (m.ban + x.n, m.stage, m.since, m.club) else if x.kind = 4 then (m.ban, m.stage + 1, x.day, m.club) else if x.kind = 5 then (m.ban, 0, x.day, m.club) else (m.ban, 1, x.day, m.club)) := by
  rcases (show x.kind = 1 ∨ x.kind = 2 ∨ x.kind = 3 ∨ x.kind = 4 ∨ x.kind = 5 by omega) with k | k | k | k | k
  · simp [oneR, k, vw]
  · simp [oneR, k, vw]
  · by_cases z : m.stage = 0
    · simp [oneR, k, z] at h
    · simp [oneR, k, vw, z]
  · by_cases z : m.stage = 0 ∨ m.stage = 6
    · simp [oneR, k, z] at h
    · by_cases y : x.day ≤ m.since
      · simp [oneR, k, z, y] at h
      · simp [oneR, k, vw, z, y]
  · by_cases z : m.stage = 6
    · by_cases y : x.day ≤ m.since
      · simp [oneR, k, z, y] at h
      · simp [oneR, k, vw, z, y]
    · simp [oneR, k, z] at h
theorem ev_kind {x : Ev} (h : evOk x = true) : 0 ≤ x.kind ∧ x.kind ≤ 6 := by
  unfold evOk at h
  simp only [Bool.and_eq_true] at h
  exact inB_iff.1 h.1.2
theorem vw_step {s : St} {x : Ev} (hs : Srt s.mem) (hx : evOk x = true) (h0 : (doR s x).2 = 0) (p : Int) : vw (mo (doR s x).1 p) = stepV x p (vw (mo s p)) := by
  have ha := doR_zero.1 h0
  have hn := ev_rng hx
  unfold AccD at ha
  rw [mo_step hs h0]
  unfold stepM stepV
  by_cases k6 : x.kind = 6
  · rw [if_pos k6, if_pos k6]
    cases mo s p with
    | none => show (0, 0, 0, -1) = _; rw [if_neg (by show ¬ x.n = -1; omega)]; rfl
    | some m =>
      show vw (some (gam x.n m)) = _
      unfold gam
      by_cases c : m.club = x.n
      · rw [if_pos c, if_pos (by show x.n = m.club; exact c.symm)]; rfl
      · rw [if_neg c, if_neg (by show ¬ x.n = m.club; exact fun e => c e.symm)]
  rw [if_neg k6, if_neg k6]
  by_cases hp : x.person = p
  · rw [if_pos hp, if_pos hp]
    by_cases k0 : x.kind = 0
    · rw [if_pos k0] at ha
      rw [if_pos k0, if_pos k0, ← hp, ha.1]; rfl
    · rw [if_neg k0, if_neg k6] at ha
      obtain ⟨m, hm, h1⟩ := ha
      rw [if_neg k0, if_neg k0, ← hp, hm]
      exact one_vw h1 k0 k6 (ev_kind hx)
  · rw [if_neg hp, if_neg hp]
def jnN (l : List Ev) (j : Nat) : Nat := (l.take j).countP fun x => decide (x.kind = 0)
theorem jnN_yes {l : List Ev} {j : Nat} (h : j < l.length) (c : (l.getD j default).kind = 0) : jnN l (j + 1) = jnN l j + 1 := by
  unfold jnN; rw [take_succ h, List.countP_append, List.countP_singleton, decide_eq_true c]; rfl
theorem jnN_no {l : List Ev} {j : Nat} (h : j < l.length) (c : ¬ (l.getD j default).kind = 0) : jnN l (j + 1) = jnN l j := by
  unfold jnN; rw [take_succ h, List.countP_append, List.countP_singleton, decide_eq_false c]; rfl
theorem jnN_le {l : List Ev} {j : Nat} : jnN l j ≤ j := by
  unfold jnN; exact Nat.le_trans List.countP_le_length (by simp; omega)
theorem mem_jn {l : List Ev} : ∀ {j : Nat}, j ≤ l.length → (∀ i, i < j → Acc l i) → (stJ l j).mem.length = jnN l j
  | 0, _, _ => by simp [stJ, jnN]
  | j + 1, hj, h => by
    have ih := mem_jn (l := l) (j := j) (by omega) fun i hi => h i (by omega)
    have h0 := (h j (by omega)).2.2
    show (doR (stJ l j) (l.getD j default)).1.mem.length = _
    by_cases k0 : (l.getD j default).kind = 0
    · rw [doR_mem0 h0 k0, len_insM, ih, jnN_yes (by omega) k0]
    · rw [jnN_no (by omega) k0, ← ih]
      by_cases k6 : (l.getD j default).kind = 6
      · rw [doR_mem6 h0 k6, List.length_map]
      · obtain ⟨_, _, _, _, _, _, _, e⟩ := doR_mem1 h0 k0 k6
        rw [e, List.length_set]
/-- What the loop over the events holds at j. -/
def vwJ (l : List Ev) (p : Int) (j : Nat) : Int × Int × Int × Int := vw (mo (stJ l j) p)
theorem vwJ_zero {l : List Ev} {p : Int} : vwJ l p 0 = (0, 0, 0, -1) := by
  unfold vwJ
  rw [mo_none.2 (by simp [stJ])]; rfl
theorem vwJ_step {l : List Ev} {p : Int} {j : Nat} (h : ∀ i, i < j + 1 → Acc l i) : vwJ l p (j + 1) = stepV (l.getD j default) p (vwJ l p j) :=
  vw_step (stJ_srt fun i hi => h i (by omega)) (h j (by omega)).1 (h j (by omega)).2.2 p
theorem vwJ_rng {l : List Ev} (hl : ∀ x ∈ l, x.sheet.length ≤ 100000) {p : Int} {j : Nat} (hj : j ≤ l.length) (h : ∀ i, i < j → Acc l i) : (0 ≤ (vwJ l p j).1 ∧ (vwJ l p j).1 ≤ 20 * (j : Int)) ∧ (0 ≤ (vwJ l p j).2.1 ∧ (vwJ l p j).2.1 ≤ 6) := by
  unfold vwJ
  cases hm : mo (stJ l j) p with
  | none => exact ⟨⟨Int.le_refl _, by show (0 : Int) ≤ _; omega⟩, Int.le_refl _, by decide⟩
  | some m =>
    have := (stJ_inv hl hj h).2.1 m ((mo_some (stJ_srt h)).1 hm).1
    unfold MOk at this
    exact ⟨this.1, this.2.1⟩
end Go.Proofs.Ytohkngiflfkjjaa
