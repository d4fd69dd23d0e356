/- A part of the proof that the last text ends: what functions of the program do, told by plain data. -/
import Derived.Test.YtohkngiflfkjjaaQG
set_option linter.unusedVariables false
set_option linter.unusedSimpArgs false
namespace Go.Proofs.Ytohkngiflfkjjaa
open Go Go.E
set_option maxRecDepth 100000
/-! ### Parts: what is left of the events of one club -/
theorem srt_ext {a b : List Mem} (ha : Srt a) (hb : Srt b) (h : ∀ m, m ∈ a ↔ m ∈ b) : a = b := by
  have hna := srt_nd ha
  have hnb := srt_nd hb
  have na : a.Nodup := List.Pairwise.of_map (·.person) (fun _ _ h e => h (by rw [e])) hna
  have nb : b.Nodup := List.Pairwise.of_map (·.person) (fun _ _ h e => h (by rw [e])) hnb
  have hp : a.Perm b := (List.perm_ext_iff_of_nodup na nb).2 h
  exact List.Perm.eq_of_pairwise (le := fun x y : Mem => x.person < y.person) (fun x y _ _ h1 h2 => by omega) ha hb hp
theorem one_club {m : Mem} {x : Ev} : (oneR m x).1.club = m.club := by
  unfold oneR
  repeat' split
  all_goals rfl
theorem gam_club {n : Int} {m : Mem} : (gam n m).club = m.club := by unfold gam; split <;> rfl
/-- Nobody leaves, nobody changes the club. -/
theorem keep_step {s : St} {x : Ev} (hs : Srt s.mem) (h0 : (doR s x).2 = 0) {p : Int} {m : Mem} (h : mo s p = some m) : ∃ m', mo (doR s x).1 p = some m' ∧ m'.club = m.club := by
  have ha := doR_zero.1 h0
  unfold AccD at ha
  rw [mo_step hs h0, h]
  unfold stepM
  split
  · exact ⟨_, rfl, gam_club⟩
  · split
    · rename_i hp
      split
      · rename_i k0
        rw [if_pos k0, hp, h] at ha
        exact absurd ha.1 (by simp)
      · exact ⟨_, rfl, one_club⟩
    · exact ⟨m, rfl, rfl⟩
theorem keep_to {l : List Ev} (ha : ∀ i, i < l.length → Acc l i) {p : Int} : ∀ {n j : Nat}, j + n ≤ l.length → ∀ {m : Mem}, mo (stJ l j) p = some m → ∃ m', mo (stJ l (j + n)) p = some m' ∧ m'.club = m.club
  | 0, j, _, m, h => ⟨m, h, rfl⟩
  | n + 1, j, hj, m, h => by
    obtain ⟨m1, h1, h2⟩ := keep_to ha (n := n) (j := j) (by omega) h
    obtain ⟨m2, h3, h4⟩ := keep_step (stJ_srt fun i hi => ha i (by omega)) (ha (j + n) (by omega)).2.2 h1
    exact ⟨m2, h3, h4.trans h2⟩
/-- Whether an event is one of the club. -/
def mineP (M : List Mem) (c : Int) (x : Ev) : Bool := if x.kind = 6 then decide (x.n = c) else M.any fun m => decide (m.person = x.person) && decide (m.club = c)
abbrev isC (c : Int) (m : Mem) : Bool := decide (m.club = c)
theorem mine_iff {s : St} (hs : Srt s.mem) {c : Int} {x : Ev} (k : x.kind ≠ 6) : mineP s.mem c x = true ↔ ∃ m, mo s x.person = some m ∧ m.club = c := by
  unfold mineP
  rw [if_neg k, List.any_eq_true]
  constructor
  · rintro ⟨m, h1, h2⟩
    rw [Bool.and_eq_true, decide_eq_true_eq, decide_eq_true_eq] at h2
    exact ⟨m, (mo_some hs).2 ⟨h1, h2.1⟩, h2.2⟩
  · rintro ⟨m, h1, h2⟩
    obtain ⟨h3, h4⟩ := (mo_some hs).1 h1
    exact ⟨m, h3, by rw [Bool.and_eq_true, decide_eq_true_eq, decide_eq_true_eq]; exact ⟨h4, h2⟩⟩
/-- Two states: the one holds what the other holds of the club. -/
def Half (c : Int) (s t : St) : Prop := ∀ q, mo t q = (mo s q).filter (isC c)
theorem half_mem {c : Int} {s t : St} (hs : Srt s.mem) (ht : Srt t.mem) (h : Half c s t) : t.mem = s.mem.filter (isC c) := by
  refine srt_ext ht (List.Pairwise.filter _ hs) fun m => ?_
  rw [List.mem_filter]
  have h1 := h m.person
  have e1 := mo_some (s := t) (p := m.person) (m := m) ht
  have e2 := mo_some (s := s) (p := m.person) (m := m) hs
  constructor
  · intro hm
    rw [e1.2 ⟨hm, rfl⟩] at h1
    obtain ⟨g1, g2⟩ := Option.filter_eq_some_iff.1 h1.symm
    exact ⟨(e2.1 g1).1, g2⟩
  · rintro ⟨hm, hc⟩
    rw [e2.2 ⟨hm, rfl⟩, Option.filter_some, if_pos hc] at h1
    exact (e1.1 h1).1
theorem half_yes {c : Int} {x : Ev} {q : Int} {o : Option Mem} (hn : x.kind = 6 → x.n = c) (h0 : x.kind = 0 → x.n = c) : stepM x q (o.filter (isC c)) = (stepM x q o).filter (isC c) := by
  unfold stepM
  by_cases k6 : x.kind = 6
  · rw [if_pos k6, if_pos k6]
    cases o with
    | none => rfl
    | some m =>
      rw [Option.filter_some, Option.map_some, Option.filter_some]
      have : isC c (gam x.n m) = isC c m := by unfold isC; rw [gam_club]
      rw [this]
      split <;> rfl
  rw [if_neg k6, if_neg k6]
  by_cases hp : x.person = q
  · rw [if_pos hp, if_pos hp]
    by_cases k0 : x.kind = 0
    · rw [if_pos k0, if_pos k0, Option.filter_some, if_pos (by unfold isC; exact decide_eq_true (h0 k0))]
    · rw [if_neg k0, if_neg k0]
      cases o with
      | none => rfl
      | some m =>
        rw [Option.filter_some, Option.map_some, Option.filter_some]
        have : isC c (oneR m x).1 = isC c m := by unfold isC; rw [one_club]
        rw [this]
        split <;> rfl
  · rw [if_neg hp, if_neg hp]
theorem half_no {c : Int} {x : Ev} {q : Int} {o : Option Mem} (hn : x.kind = 6 → x.n ≠ c) (h0 : x.kind = 0 → x.person = q → o = none ∧ x.n ≠ c) (h1 : x.kind ≠ 0 → x.kind ≠ 6 → x.person = q → ∀ m, o = some m → m.club ≠ c) : (stepM x q o).filter (isC c) = o.filter (isC c) := by
  unfold stepM
  by_cases k6 : x.kind = 6
  · rw [if_pos k6]
    cases o with
    | none => rfl
    | some m =>
      rw [Option.map_some, Option.filter_some, Option.filter_some]
      have e : isC c (gam x.n m) = isC c m := by unfold isC; rw [gam_club]
      rw [e]
      by_cases hc : m.club = c
      · have : gam x.n m = m := by unfold gam; rw [if_neg (fun e => hn k6 (e.symm.trans hc))]
        rw [this]
      · rw [if_neg (by unfold isC; simpa using hc), if_neg (by unfold isC; simpa using hc)]
  rw [if_neg k6]
  by_cases hp : x.person = q
  · rw [if_pos hp]
    by_cases k0 : x.kind = 0
    · obtain ⟨e1, e2⟩ := h0 k0 hp
      rw [if_pos k0, e1, Option.filter_some, if_neg (by unfold isC; simpa using e2)]; rfl
    · rw [if_neg k0]
      cases o with
      | none => rfl
      | some m =>
        have hc := h1 k0 k6 hp m rfl
        rw [Option.map_some, Option.filter_some, Option.filter_some, if_neg (by unfold isC; rw [one_club]; simpa using hc), if_neg (by unfold isC; simpa using hc)]
  · rw [if_neg hp]
theorem any_sub {l r : List Ev} {q : Ev → Bool} (hs : ∀ x ∈ r, x ∈ l) (h : l.any q = false) : r.any q = false := by
  rw [List.any_eq_false] at h ⊢
  exact fun x hx => h x (hs x hx)
theorem why_sub {l r : List Ev} {m : Mem} {d : Int} (hs : ∀ x ∈ r, x ∈ l) (h : why l m d = []) : why r m d = [] := by
  unfold why at h ⊢
  by_cases b1 : 0 < m.ban
  · rw [if_pos b1] at h; simp at h
  by_cases b2 : 0 < m.stage
  · rw [if_pos b2] at h; simp at h
  rw [if_neg b1, if_neg b2] at h ⊢
  have : plB r m.person d = false := by
    refine any_sub hs ?_
    cases hp : plB l m.person d with
    | false => exact hp
    | true => rw [hp] at h; simp at h
  rw [this]; simp
/-- The events of the club alone: they are accepted, and leave its members as they are. -/
theorem parts_run {l : List Ev} (h : Good l) (hl : l.length ≤ 200) (c : Int) : ∀ {j : Nat}, j ≤ l.length → Good ((l.take j).filter (mineP (runR l).1.mem c)) ∧ Half c (stJ l j) (runR ((l.take j).filter (mineP (runR l).1.mem c))).1
  | 0, _ => by
    have hz : (runR ([] : List Ev)).2.2 = 0 := by decide
    rw [List.take_zero, List.filter_nil]
    refine ⟨good_of hz, fun q => ?_⟩
    have he : runR ([] : List Ev) = (⟨[], []⟩, 0, 0) := by decide
    rw [he]
    rfl
  | j + 1, hj => by
    obtain ⟨hG, hH⟩ := parts_run h hl c (j := j) (by omega)
    have hacc := h.acc j (by omega)
    have hS := stJ_srt (l := l) (j := j) fun i hi => h.acc i (by omega)
    have hz := doR_zero.1 hacc.2.2
    have hlast : (runR l).1 = stJ l l.length := by rw [(run_ok h.ok).1]
    -- the club of a person at j is the last one
    have hclub : ∀ p m, mo (stJ l j) p = some m → ∃ m', mo (runR l).1 p = some m' ∧ m'.club = m.club := fun p m hm => by
      obtain ⟨m', h1, h2⟩ := keep_to h.acc (n := l.length - j) (j := j) (by omega) hm
      rw [show j + (l.length - j) = l.length by omega] at h1
      exact ⟨m', by rw [hlast]; exact h1, h2⟩
    have hclub1 : ∀ p m, mo (stJ l (j + 1)) p = some m → ∃ m', mo (runR l).1 p = some m' ∧ m'.club = m.club := fun p m hm => by
      obtain ⟨m', h1, h2⟩ := keep_to h.acc (n := l.length - (j + 1)) (j := j + 1) (by omega) hm
      rw [show j + 1 + (l.length - (j + 1)) = l.length by omega] at h1
      exact ⟨m', by rw [hlast]; exact h1, h2⟩
    have hstep : ∀ q, mo (stJ l (j + 1)) q = stepM (l.getD j default) q (mo (stJ l j) q) := mo_stJ fun i hi => h.acc i (by omega)
    rw [take_succ (by omega), List.filter_append]
    have hev := hacc.1
    generalize hx : l.getD j default = x at hev hz hstep
    -- whose event it is
    have hm0 : x.kind = 0 → (mineP (runR l).1.mem c x = true ↔ x.n = c) := fun k => by
      rw [mine_iff h.srt (by omega)]
      have h1 : mo (stJ l (j + 1)) x.person = some ⟨x.person, x.n, 0, 0, 0⟩ := by
        rw [hstep]; unfold stepM; rw [if_neg (by omega), if_pos rfl, if_pos k]
      obtain ⟨m', h2, h3⟩ := hclub1 _ _ h1
      constructor
      · rintro ⟨m, h4, h5⟩
        rw [h2] at h4; cases h4
        exact h3.symm.trans h5
      · intro hc; exact ⟨m', h2, h3.trans hc⟩
    have hm1 : x.kind ≠ 0 → x.kind ≠ 6 → ∀ m, mo (stJ l j) x.person = some m → (mineP (runR l).1.mem c x = true ↔ m.club = c) := fun k0 k6 m hm => by
      rw [mine_iff h.srt k6]
      obtain ⟨m', h2, h3⟩ := hclub _ _ hm
      constructor
      · rintro ⟨m1, h4, h5⟩
        rw [h2] at h4; cases h4
        exact h3.symm.trans h5
      · intro hc; exact ⟨m', h2, h3.trans hc⟩
    have hsub : ∀ y ∈ (l.take j).filter (mineP (runR l).1.mem c), y ∈ l.take j := fun y hy => (List.mem_filter.1 hy).1
    have hevs := stJ_evs (l := l) (j := j) (by omega) fun i hi => h.acc i (by omega)
    have hlenO : ((l.take j).filter (mineP (runR l).1.mem c)).length ≤ j := Nat.le_trans (List.length_filter_le _ _) (by simp; omega)
    have hmem := half_mem hS hG.srt hH
    by_cases hmine : mineP (runR l).1.mem c x = true
    · have e : [x].filter (mineP (runR l).1.mem c) = [x] := by rw [List.filter_cons, if_pos hmine]; rfl
      rw [e]
      have hlate : lateE ((l.take j).filter (mineP (runR l).1.mem c)) x.day := fun h0 => by
        have hin : ((l.take j).filter (mineP (runR l).1.mem c)).getD (((l.take j).filter (mineP (runR l).1.mem c)).length - 1) default ∈ l.take j := hsub _ (by rw [at_lt (by omega)]; exact List.getElem_mem _)
        obtain ⟨i, hi, e1⟩ := List.getElem_of_mem hin
        rw [← e1, List.getElem_take]
        simp at hi
        have key : ∀ n, i + n ≤ j → (l.getD i default).day ≤ (l.getD (i + n) default).day := fun n => by
          induction n with
          | zero => intro _; exact Int.le_refl _
          | succ n ih =>
            intro hn
            have h1 := ih (by omega)
            have h2 := (h.acc (i + n + 1) (by omega)).2.1 (by omega)
            rw [Nat.add_sub_cancel] at h2
            exact Int.le_trans h1 h2
        have := key (j - i) (by omega)
        rw [show i + (j - i) = j by omega, hx, at_lt (by omega)] at this
        exact this
      have hA : AccD (runR ((l.take j).filter (mineP (runR l).1.mem c))).1 x := by
        unfold AccD at hz ⊢
        by_cases k0 : x.kind = 0
        · rw [if_pos k0] at hz ⊢
          have hc := (hm0 k0).1 hmine
          refine ⟨by rw [hH, hz.1]; rfl, ?_⟩
          have h25 := hz.2
          unfold clubN at h25 ⊢
          rw [List.take_length] at h25 ⊢
          rw [hmem, List.countP_filter]
          refine Nat.lt_of_le_of_lt ?_ h25
          exact List.countP_mono_left fun m _ hh => by
            rw [Bool.and_eq_true] at hh
            exact hh.1
        · by_cases k6 : x.kind = 6
          · rw [if_neg k0, if_pos k6] at hz ⊢
            have hc : x.n = c := by unfold mineP at hmine; rw [if_pos k6] at hmine; exact of_decide_eq_true hmine
            rw [hevs] at hz
            rw [hG.evs]
            refine ⟨any_sub hsub hz.1, fun q hq => ?_⟩
            obtain ⟨m, g1, g2, g3⟩ := hz.2 q hq
            refine ⟨m, ?_, g2, why_sub hsub g3⟩
            rw [hH, g1, Option.filter_some, if_pos (by unfold isC; exact decide_eq_true (g2.trans hc))]
          · rw [if_neg k0, if_neg k6] at hz ⊢
            obtain ⟨m, g1, g2⟩ := hz
            have hc := (hm1 k0 k6 m g1).1 hmine
            exact ⟨m, by rw [hH, g1, Option.filter_some, if_pos (by unfold isC; exact decide_eq_true hc)], g2⟩
      have hlt : ((l.take j).filter (mineP (runR l).1.mem c)).length < 256 := by omega
      refine ⟨(hG.snoc hlt hev hlate hA).1, fun q => ?_⟩
      rw [hG.mo_snoc hlt hev hlate hA, hH, hstep]
      exact half_yes (fun k => by unfold mineP at hmine; rw [if_pos k] at hmine; exact of_decide_eq_true hmine) (fun k => (hm0 k).1 hmine)
    · have e : [x].filter (mineP (runR l).1.mem c) = [] := by rw [List.filter_cons, if_neg hmine]; rfl
      rw [e, List.append_nil]
      refine ⟨hG, fun q => ?_⟩
      rw [hH, hstep]
      symm
      unfold AccD at hz
      refine half_no (fun k hc => hmine (by unfold mineP; rw [if_pos k]; exact decide_eq_true hc)) (fun k hp => ?_) (fun k0 k6 hp m hm hc => ?_)
      · rw [if_pos k] at hz
        exact ⟨by rw [← hp]; exact hz.1, fun hc => hmine ((hm0 k).2 hc)⟩
      · rw [← hp] at hm
        exact hmine ((hm1 k0 k6 m hm).2 hc)
end Go.Proofs.Ytohkngiflfkjjaa
