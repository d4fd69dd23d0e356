/- A part of the proof that the last text ends: what functions of the program do, told by plain data. -/
import Derived.Test.YtohkngiflfkjjaaQB
set_option linter.unusedVariables false
set_option linter.unusedSimpArgs false
namespace Go.Proofs.Ytohkngiflfkjjaa
open Go Go.E
set_option maxRecDepth 100000
/-! ### Sheets: what is reckoned of a player ahead of a match -/
abbrev UU := Bool × Int × Bool × Int
def stepU (x : Ev) (c p : Int) (u : UU) : UU :=
  if x.kind = 6 then (if x.n = c ∧ u.1 = true then (u.1, max 0 (u.2.1 - 1), u.2.2) else u)
  else if x.person = p then (if x.kind = 0 then ((u.1 || decide (x.n = c)), u.2) else if x.kind = 1 then (u.1, u.2.1 + x.n, u.2.2) else if x.kind = 2 ∨ x.kind = 3 then (u.1, u.2.1, true, x.day) else if x.kind = 5 then (u.1, u.2.1, false, u.2.2.2) else u) else u
def Lk (c : Int) (j : Nat) (o : Option Mem) (u : UU) : Prop :=
  ((0 ≤ u.2.1 ∧ u.2.1 ≤ 20 * (j : Int)) ∧ (0 ≤ u.2.2.2 ∧ u.2.2.2 ≤ 16384)) ∧ match o with
    | none => u.1 = false ∧ u.2.1 = 0 ∧ u.2.2.1 = false
    | some m => u.1 = decide (m.club = c) ∧ (m.club = c → u.2.1 = m.ban) ∧ u.2.2.1 = decide (m.stage ≠ 0) ∧ (m.stage ≠ 0 → u.2.2.2 + m.stage ≤ m.since + 1)
theorem lk_step {s : St} {x : Ev} {c p : Int} {j : Nat} {u : UU} (hs : Srt s.mem) (hx : evOk x = true) (h0 : (doR s x).2 = 0) (hst : ∀ m ∈ s.mem, 0 ≤ m.stage) (h : Lk c j (mo s p) u) : Lk c (j + 1) (mo (doR s x).1 p) (stepU x c p u) ∧ (x.kind = 5 → x.person = p → u.2.2.2 + 6 ≤ x.day) := by
  have ha := doR_zero.1 h0
  have hn := ev_rng hx
  have hd := ev_day hx
  have hk := ev_kind hx
  unfold AccD at ha
  rw [mo_step hs h0]
  obtain ⟨jd, ban, hurt, last⟩ := u
  unfold Lk at h
  simp only at h
  obtain ⟨⟨hb, hl⟩, h⟩ := h
  have hb' : 20 * ((j + 1 : Nat) : Int) = 20 * (j : Int) + 20 := by omega
  by_cases k6 : x.kind = 6
  · refine ⟨?_, fun k => by omega⟩
    unfold stepM stepU
    rw [if_pos k6, if_pos k6]
    cases hm : mo s p with
    | none =>
      rw [hm] at h
      obtain ⟨rfl, rfl, rfl⟩ := h
      rw [if_neg (by simp)]
      exact ⟨⟨⟨hb.1, by show (0 : Int) ≤ _; omega⟩, hl⟩, rfl, rfl, rfl⟩
    | some m =>
      rw [hm] at h
      obtain ⟨h1, h2, h3, h4⟩ := h
      by_cases q : m.club = x.n
      · have hg : gam x.n m = { m with ban := max 0 (m.ban - 1) } := by unfold gam; rw [if_pos q]
        by_cases q2 : x.n = c
        · have hj : jd = true := by rw [h1]; exact decide_eq_true (q.trans q2)
          rw [if_pos ⟨q2, hj⟩]
          refine ⟨⟨⟨by show 0 ≤ max 0 (ban - 1); omega, by show max 0 (ban - 1) ≤ _; omega⟩, hl⟩, ?_⟩
          rw [Option.map_some, hg]
          exact ⟨h1, fun hc => by show max 0 (ban - 1) = max 0 (m.ban - 1); rw [h2 hc], h3, h4⟩
        · rw [if_neg fun hc => q2 hc.1]
          refine ⟨⟨⟨hb.1, by show ban ≤ _; omega⟩, hl⟩, ?_⟩
          rw [Option.map_some, hg]
          exact ⟨h1, fun hc => absurd (q.symm.trans hc) q2, h3, h4⟩
      · have hg : gam x.n m = m := by unfold gam; rw [if_neg q]
        have hne : ¬ (x.n = c ∧ jd = true) := fun hc => by
          have := hc.2
          rw [h1] at this
          exact q ((of_decide_eq_true this).trans hc.1.symm)
        rw [if_neg hne]
        refine ⟨⟨⟨hb.1, by show ban ≤ _; omega⟩, hl⟩, ?_⟩
        rw [Option.map_some, hg]
        exact ⟨h1, h2, h3, h4⟩
  by_cases hp : x.person = p
  case neg =>
    refine ⟨?_, fun _ e => absurd e hp⟩
    unfold stepM stepU
    rw [if_neg k6, if_neg k6, if_neg hp, if_neg hp]
    exact ⟨⟨⟨hb.1, by show ban ≤ _; omega⟩, hl⟩, h⟩
  by_cases k0 : x.kind = 0
  · rw [if_pos k0, hp] at ha
    refine ⟨?_, fun k => by omega⟩
    unfold stepM stepU
    rw [if_neg k6, if_neg k6, if_pos hp, if_pos hp, if_pos k0, if_pos k0]
    rw [ha.1] at h
    obtain ⟨rfl, rfl, rfl⟩ := h
    refine ⟨⟨⟨Int.le_refl _, by show (0 : Int) ≤ _; omega⟩, hl⟩, by simp, fun _ => rfl, by simp, fun h => absurd rfl h⟩
  rw [if_neg k0, if_neg k6, hp] at ha
  obtain ⟨m, hm, h1⟩ := ha
  rw [hm] at h
  obtain ⟨g1, g2, g3, g4⟩ := h
  unfold stepM stepU
  rw [if_neg k6, if_neg k6, if_pos hp, if_pos hp, if_neg k0, if_neg k0, hm]
  simp only [Option.map_some]
  rcases (show x.kind = 1 ∨ x.kind = 2 ∨ x.kind = 3 ∨ x.kind = 4 ∨ x.kind = 5 by omega) with k | k | k | k | k
  · refine ⟨?_, fun h => by omega⟩
    have hone : (oneR m x).1 = { m with ban := m.ban + x.n } := by unfold oneR; rw [if_pos k]
    have := hn.2.2 k
    rw [if_pos k, hone]
    exact ⟨⟨⟨by show 0 ≤ ban + x.n; omega, by show ban + x.n ≤ _; omega⟩, hl⟩, g1, fun hc => by show ban + x.n = m.ban + x.n; rw [g2 hc], g3, g4⟩
  · refine ⟨?_, fun h => by omega⟩
    have hone : (oneR m x).1 = { m with stage := 1, since := x.day } := by simp [oneR, k]
    rw [if_neg (by omega), if_pos (.inl k), hone]
    exact ⟨⟨⟨hb.1, by show ban ≤ _; omega⟩, hd⟩, g1, g2, by simp, fun _ => by show x.day + 1 ≤ x.day + 1; omega⟩
  · refine ⟨?_, fun h => by omega⟩
    by_cases z : m.stage = 0
    · simp [oneR, k, z] at h1
    have hone : (oneR m x).1 = { m with stage := 1, since := x.day } := by simp [oneR, k, z]
    rw [if_neg (by omega), if_pos (.inr k), hone]
    exact ⟨⟨⟨hb.1, by show ban ≤ _; omega⟩, hd⟩, g1, g2, by simp, fun _ => by show x.day + 1 ≤ x.day + 1; omega⟩
  · refine ⟨?_, fun h => by omega⟩
    by_cases z : m.stage = 0 ∨ m.stage = 6
    · simp [oneR, k, z] at h1
    by_cases y : x.day ≤ m.since
    · simp [oneR, k, z, y] at h1
    have hone : (oneR m x).1 = { m with stage := m.stage + 1, since := x.day } := by simp [oneR, k, z, y]
    have z0 : m.stage ≠ 0 := fun e => z (.inl e)
    have g4' := g4 z0
    rw [if_neg (by omega), if_neg (by omega), if_neg (by omega), hone]
    have hm0 := hst m ((mo_some hs).1 hm).1
    have z1 : m.stage + 1 ≠ 0 := by omega
    · exact ⟨⟨⟨hb.1, by show ban ≤ _; omega⟩, hl⟩, g1, g2, by show hurt = decide (m.stage + 1 ≠ 0); rw [g3, decide_eq_true z0, decide_eq_true z1], fun _ => by show last + (m.stage + 1) ≤ x.day + 1; omega⟩
  · by_cases z : m.stage = 6
    case neg => simp [oneR, k, z] at h1
    by_cases y : x.day ≤ m.since
    · simp [oneR, k, z, y] at h1
    have g4' := g4 (by omega)
    refine ⟨?_, fun _ _ => by show last + 6 ≤ x.day; omega⟩
    have hone : (oneR m x).1 = { m with stage := 0, since := x.day } := by simp [oneR, k, z, y]
    rw [if_neg (by omega), if_neg (by omega), if_pos k, hone]
    exact ⟨⟨⟨hb.1, by show ban ≤ _; omega⟩, hl⟩, g1, g2, by simp, fun h => absurd rfl h⟩
end Go.Proofs.Ytohkngiflfkjjaa
