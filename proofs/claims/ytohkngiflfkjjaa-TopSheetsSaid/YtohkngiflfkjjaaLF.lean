/- A part of the proof that the last text ends: what functions of the program do, told by plain data. -/
import Derived.Test.YtohkngiflfkjjaaQK
import Derived.Test.YtohkngiflfkjjaaLD
set_option linter.unusedVariables false
set_option linter.unusedSimpArgs false
namespace Go.Proofs.Ytohkngiflfkjjaa
open Go Go.E
set_option maxRecDepth 100000
/-! ### A season's schedule and the sheets -/
theorem lgN_ok {l : List Gam} : ∀ {k i : Nat}, i + k = l.length → (lgN l k i).2 = 0 → ∀ j, i ≤ j → j < l.length → (0 < j → (l.getD (j - 1) default).day ≤ (l.getD j default).day) ∧ twB (l.getD j default) (l.take j) = false
  | 0, i, h, _, j, h1, h2 => by omega
  | k + 1, i, h, h0, j, h1, h2 => by
    unfold lgN at h0
    split at h0
    · simp at h0
    · rename_i c1
      split at h0
      · simp at h0
      · rename_i c2
        rcases Nat.eq_or_lt_of_le h1 with e | e
        · subst e
          exact ⟨fun hj => by omega, by simpa using c2⟩
        · exact lgN_ok (by omega) h0 j e h2
/-- What a schedule without errors is. -/
structure Sched (l : Lea) : Prop where
  ok : leaOk l = true
  n : l.far.length ≤ 6
  gm : ∀ j, j < l.games.length → (0 ≤ (l.games.getD j default).day ∧ (l.games.getD j default).day ≤ 16384) ∧ (0 ≤ (l.games.getD j default).home ∧ (l.games.getD j default).home < l.far.length) ∧ (0 ≤ (l.games.getD j default).away ∧ (l.games.getD j default).away < l.far.length) ∧ (l.games.getD j default).home ≠ (l.games.getD j default).away
  ord : ∀ i j, i ≤ j → j < l.games.length → (l.games.getD i default).day ≤ (l.games.getD j default).day
  tw : ∀ i j, i < j → j < l.games.length → (l.games.getD i default).day = (l.games.getD j default).day → ∀ c, (c = (l.games.getD j default).home ∨ c = (l.games.getD j default).away) → hasB (l.games.getD i default) c = false
theorem sched_of {l : Lea} (h : (lgR l).2 = 0) : Sched l := by
  have hok : leaOk l = true := by
    cases hb : leaOk l with
    | true => rfl
    | false => unfold lgR at h; rw [hb] at h; simp at h
  have h2 : (lgN l.games l.games.length 0).2 = 0 := by unfold lgR at h; rw [if_pos hok] at h; exact h
  have hl := lgN_ok (by omega) h2
  have hok' := hok
  unfold leaOk at hok'
  simp only [Bool.and_eq_true, decide_eq_true_eq] at hok'
  refine ⟨hok, by omega, fun j hj => ?_, fun i j => ?_, fun i j hij hj hd c hc => ?_⟩
  · have hg := all_get.1 hok'.2.2.2.1 j hj
    unfold gmOk at hg
    simp only [Bool.and_eq_true, inB_iff, Bool.not_eq_true', decide_eq_false_iff_not] at hg
    exact ⟨hg.1, ⟨hg.2.1.1, by omega⟩, ⟨hg.2.2.1.1, by omega⟩, hg.2.2.2.1⟩
  · have key : ∀ n, i + n < l.games.length → (l.games.getD i default).day ≤ (l.games.getD (i + n) default).day := fun n => by
      induction n with
      | zero => intro _; exact Int.le_refl _
      | succ n ih =>
        intro hn
        have h1 := ih (by omega)
        have h2 := (hl (i + n + 1) (by omega) (by omega)).1 (by omega)
        rw [Nat.add_sub_cancel] at h2
        exact Int.le_trans h1 h2
    intro hij hj
    have := key (j - i) (by omega)
    rwa [show i + (j - i) = j by omega] at this
  · have ht := (hl j (by omega) hj).2
    cases hb : hasB (l.games.getD i default) c with
    | false => rfl
    | true =>
      exfalso
      unfold twB at ht
      rw [List.any_eq_false] at ht
      refine ht (l.games.getD i default) ?_ ?_
      · rw [at_lt (by omega)]; exact List.mem_iff_getElem.2 ⟨i, by simp; omega, by simp⟩
      · rw [decide_eq_true hd]
        rcases hc with rfl | rfl
        · rw [hb]; rfl
        · rw [hb, Bool.or_true]; rfl
def cntG (gs : List Int) (c : Int) : Int := if c < gs.length then gs.getD c.toNat 0 else 0
def servedM (gs : List Int) (m : Mem) : Mem := { m with ban := max 0 (m.ban - cntG gs m.club) }
/-- Where the season stands: ahead of game i, k of its clubs being done. -/
structure Sea (l : Lea) (r : List Ev) (i k : Nat) (ms : List Ev) (gs : List Int) : Prop where
  good : Good (r ++ ms)
  len : ms.length ≤ 2 * i + k
  sh : ∀ x ∈ ms, x.sheet.length ≤ 20
  gl : gs.length = l.far.length
  g0 : ∀ q ∈ gs, 0 ≤ q ∧ q ≤ 2 * (i : Int) + k
  mo : ∀ p, mo (runR (r ++ ms)).1 p = (mo (runR r).1 p).map (servedM gs)
  from_ : ∀ x ∈ ms, x.kind = 6 ∧ (0 < r.length → lastD r < x.day) ∧ ((∃ q, q < i ∧ (l.games.getD q default).day = x.day ∧ hasB (l.games.getD q default) x.n = true) ∨ (1 ≤ k ∧ x.day = (l.games.getD i default).day ∧ x.n = (l.games.getD i default).home))
theorem sea_zero {l : Lea} {r : List Ev} (h : Good r) : Sea l r 0 0 [] (List.replicate l.far.length 0) := by
  refine ⟨by rw [List.append_nil]; exact h, by simp, by simp, by simp, fun q hq => by simp at hq; rw [hq.2]; exact ⟨Int.le_refl _, by decide⟩, fun p => ?_, by simp⟩
  rw [List.append_nil]
  cases hm : Go.Proofs.Ytohkngiflfkjjaa.mo (runR r).1 p with
  | none => rfl
  | some m =>
    rw [Option.map_some]
    congr 1
    have hi : 0 ≤ m.ban := by
      obtain ⟨h1, h2⟩ := (mo_some h.srt).1 hm
      have hlast := (run_ok h.ok).1
      have key : ∀ j, j ≤ r.length → ∀ a ∈ (stJ r j).mem, 0 ≤ a.ban := fun j => by
        induction j with
        | zero => intro _ a ha; cases ha
        | succ j ih =>
          intro hj a ha
          have hs := stJ_srt (l := r) (j := j) fun i hi => h.acc i (by omega)
          have hx := h.acc j (by omega)
          have hn := ev_rng hx.1
          have e : (stJ r (j + 1)).mem = (doR (stJ r j) (r.getD j default)).1.mem := rfl
          rw [e] at ha
          by_cases k0 : (r.getD j default).kind = 0
          · rw [doR_mem0 hx.2.2 k0] at ha
            rcases mem_insM.1 ha with rfl | ha
            · exact Int.le_refl _
            · exact ih (by omega) a ha
          by_cases k6 : (r.getD j default).kind = 6
          · rw [doR_mem6 hx.2.2 k6] at ha
            obtain ⟨b, hb, rfl⟩ := List.mem_map.1 ha
            have := ih (by omega) b hb
            unfold gam
            split
            · exact Int.le_max_left _ _
            · exact this
          · obtain ⟨q, m0, hq, g1, _, _, _, g5⟩ := doR_mem1 hx.2.2 k0 k6
            rw [g5] at ha
            rcases List.mem_or_eq_of_mem_set ha with ha | rfl
            · exact ih (by omega) a ha
            · have h0 := ih (by omega) m0 (by rw [← g1, at_lt hq]; exact List.getElem_mem _)
              unfold oneR
              repeat' split
              all_goals first | exact h0 | (show 0 ≤ m0.ban + _; omega)
      rw [hlast] at h1
      exact key r.length (Nat.le_refl _) m h1
    have hc : cntG (List.replicate l.far.length 0) m.club = 0 := by
      unfold cntG
      split
      · simp only [List.getD, List.getElem?_replicate]
        split <;> rfl
      · rfl
    unfold servedM
    rw [hc, show max 0 (m.ban - 0) = m.ban by omega]
/-- A club's step: its match is played with those who are able. -/
theorem sea_step {l : Lea} {r : List Ev} {i k : Nat} {ms : List Ev} {gs : List Int} (hS : Sched l) (h : Sea l r i k ms gs) (hr : r.length ≤ 60) (hi : i < l.games.length) (hi40 : l.games.length ≤ 40) (hk : k < 2) (hd : 0 < r.length → lastD r < (l.games.getD i default).day) {c : Int} (hc : c = if k = 1 then (l.games.getD i default).away else (l.games.getD i default).home) :
    (inB c 0 255 = true ∧ lateB (r ++ ms) (l.games.getD i default).day = true) ∧ (r ++ ms).any (sameE (l.games.getD i default).day c) = false ∧ (0 ≤ c ∧ c < l.far.length) ∧ (r ++ ms).length ≤ 145 := by
  have hg := hS.gm i hi
  have hcr : 0 ≤ c ∧ c < l.far.length := by rw [hc]; split; exact hg.2.2.1; exact hg.2.1
  have hn := hS.n
  have hlen : (r ++ ms).length ≤ 145 := by have := h.len; rw [List.length_append]; omega
  have hday : ∀ x ∈ ms, x.day ≤ (l.games.getD i default).day := fun x hx => by
    rcases (h.from_ x hx).2.2 with ⟨q, h1, h2, _⟩ | ⟨_, h2, _⟩
    · rw [← h2]; exact hS.ord q i (by omega) hi
    · rw [h2]; exact Int.le_refl _
  refine ⟨⟨inB_iff.2 (by omega), ?_⟩, ?_, hcr, hlen⟩
  · unfold lateB
    rw [Bool.and_eq_true, inB_iff, Bool.or_eq_true, decide_eq_true_eq, decide_eq_true_eq]
    refine ⟨hg.1, ?_⟩
    by_cases h0 : (r ++ ms).length = 0
    · left; rw [h0]; rfl
    · right
      have hm : (r ++ ms).getD ((r ++ ms).length - 1) default ∈ r ++ ms := by rw [at_lt (by omega)]; exact List.getElem_mem _
      rcases List.mem_append.1 hm with hm | hm
      · obtain ⟨q, hq, e⟩ := List.getElem_of_mem hm
        have hgr : Good r := good_of (by
          have := h.good.acc
          rw [run_all (by omega) (fun j hj => (acc_app (r := ms) hj).1 (this j (by rw [List.length_append]; omega)))])
        have := hgr.days q hq
        rw [at_lt hq, e] at this
        have := hd (by omega)
        omega
      · exact hday _ hm
  · rw [List.any_append, Bool.or_eq_false_iff]
    constructor
    · rw [List.any_eq_false]
      intro x hx
      obtain ⟨q, hq, rfl⟩ := List.getElem_of_mem hx
      have hgr : Good r := good_of (by
        have := h.good.acc
        rw [run_all (by omega) (fun j hj => (acc_app (r := ms) hj).1 (this j (by rw [List.length_append]; omega)))])
      have h1 := hgr.days q hq
      rw [at_lt hq] at h1
      have h2 := hd (by omega)
      unfold sameE
      rw [decide_eq_false (p := (r[q]).day = _) (by omega), Bool.and_false, Bool.false_and]
      simp
    · rw [List.any_eq_false]
      intro x hx
      obtain ⟨h6, _, h2⟩ := h.from_ x hx
      unfold sameE
      by_cases e1 : x.day = (l.games.getD i default).day
      · by_cases e2 : x.n = c
        · exfalso
          rcases h2 with ⟨q, g1, g2, g3⟩ | ⟨g1, g2, g3⟩
          · have := hS.tw q i g1 hi (g2.trans e1) x.n (by rw [e2, hc]; split; exact .inr rfl; exact .inl rfl)
            rw [g3] at this; cases this
          · have : k = 1 := by omega
            rw [if_pos this] at hc
            exact hg.2.2.2 (g3.symm.trans (e2.trans hc))
        · rw [decide_eq_false e2, Bool.and_false]; simp
      · rw [decide_eq_false e1, Bool.and_false, Bool.false_and]; simp
theorem cnt_set {gs : List Int} {c q : Int} (hc : 0 ≤ c ∧ c < gs.length) (hq : 0 ≤ q) : cntG (gs.set c.toNat (gs.getD c.toNat 0 + 1)) q = if q = c then cntG gs q + 1 else cntG gs q := by
  unfold cntG
  rw [List.length_set]
  by_cases e : q = c
  · subst e
    rw [if_pos rfl, if_pos hc.2, if_pos hc.2]
    simp [List.getD, show q.toNat < gs.length by omega]
  · rw [if_neg e]
    split
    · have hne : ¬ c.toNat = q.toNat := by omega
      simp [List.getD, List.getElem?_set, hne]
    · rfl
/-- Behind the club's match. -/
theorem sea_next {l : Lea} {r : List Ev} {i k : Nat} {ms : List Ev} {gs : List Int} (hS : Sched l) (h : Sea l r i k ms gs) (hr : r.length ≤ 60) (hi : i < l.games.length) (hi40 : l.games.length ≤ 40) (hk : k < 2) (hd : 0 < r.length → lastD r < (l.games.getD i default).day) {c : Int} (hc : c = if k = 1 then (l.games.getD i default).away else (l.games.getD i default).home) {sh : List Int} (hsh : sh.length ≤ 20) (hacc : (runR ((r ++ ms) ++ [⟨(l.games.getD i default).day, 6, 0, c, sh⟩])).2.2 = 0) :
    ∃ ms', ms' = ms ++ [⟨(l.games.getD i default).day, 6, 0, c, sh⟩] ∧ Good (r ++ ms') ∧ ms'.length ≤ 2 * i + (k + 1) ∧ (∀ x ∈ ms', x.sheet.length ≤ 20) ∧ (∀ p, mo (runR (r ++ ms')).1 p = (mo (runR r).1 p).map (servedM (gs.set c.toNat (gs.getD c.toNat 0 + 1)))) ∧
      (∀ x ∈ ms', x.kind = 6 ∧ (0 < r.length → lastD r < x.day) ∧ ((∃ q, q < i ∧ (l.games.getD q default).day = x.day ∧ hasB (l.games.getD q default) x.n = true) ∨ (x.day = (l.games.getD i default).day ∧ (x.n = (l.games.getD i default).home ∨ (k = 1 ∧ x.n = (l.games.getD i default).away))))) := by
  obtain ⟨⟨_, hlate⟩, hany, hcr, hlen⟩ := sea_step hS h hr hi hi40 hk hd hc
  have hG := good_of hacc
  have happ : (r ++ ms) ++ [⟨(l.games.getD i default).day, 6, 0, c, sh⟩] = r ++ (ms ++ [⟨(l.games.getD i default).day, 6, 0, c, sh⟩]) := List.append_assoc _ _ _
  rw [happ] at hG
  refine ⟨_, rfl, hG, by rw [List.length_append]; have := h.len; simp only [List.length_cons, List.length_nil]; omega, fun x hx => ?_, fun p => ?_, fun x hx => ?_⟩
  · rcases List.mem_append.1 hx with hx | hx
    · exact h.sh x hx
    · simp at hx; rw [hx]; exact hsh
  · have hx := (hG.acc (r ++ ms).length (by simp)).1
    have hdo := (hG.acc (r ++ ms).length (by simp)).2.2
    rw [← happ, getD_new] at hx hdo
    rw [stJ_app (Nat.le_refl _), ← (show (runR (r ++ ms)).1 = stJ (r ++ ms) (r ++ ms).length by rw [(run_ok h.good.ok).1])] at hdo
    have hA := doR_zero.1 hdo
    rw [← happ, h.good.mo_snoc (by omega) hx (late_lateE hlate) hA, h.mo]
    unfold stepM
    simp only
    rw [if_pos (by decide)]
    cases hm : mo (runR r).1 p with
    | none => rfl
    | some m =>
      rw [Option.map_some, Option.map_some, Option.map_some]
      congr 1
      have hgr : Good r := good_of (by
        have := h.good.acc
        rw [run_all (by omega) (fun j hj => (acc_app (r := ms) hj).1 (this j (by rw [List.length_append]; omega)))])
      have hmr := hgr.rng m ((mo_some hgr.srt).1 hm).1
      unfold servedM gam
      simp only
      rw [cnt_set (by rw [h.gl]; exact hcr) hmr.2.1]
      by_cases e : m.club = c
      · have hc0 : 0 ≤ cntG gs m.club := by
          unfold cntG
          split
          · rename_i hlt
            exact (h.g0 _ (by
              have : m.club.toNat < gs.length := by omega
              simp only [List.getD, List.getElem?_eq_getElem this, Option.getD_some]
              exact List.getElem_mem _)).1
          · exact Int.le_refl _
        rw [if_pos e, if_pos e]
        simp only [Mem.mk.injEq, true_and, and_true]
        omega
      · rw [if_neg e, if_neg e]
  · rcases List.mem_append.1 hx with hx | hx
    · obtain ⟨g1, g2, g3⟩ := h.from_ x hx
      refine ⟨g1, g2, ?_⟩
      rcases g3 with g3 | ⟨_, g4, g5⟩
      · exact .inl g3
      · exact .inr ⟨g4, .inl g5⟩
    · simp at hx
      subst hx
      refine ⟨rfl, hd, .inr ⟨rfl, ?_⟩⟩
      by_cases k1 : k = 1
      · rw [if_pos k1] at hc; exact .inr ⟨k1, hc⟩
      · rw [if_neg k1] at hc; exact .inl hc
theorem sea_skip {l : Lea} {r : List Ev} {i : Nat} {ms : List Ev} {gs : List Int} (h : Sea l r i 0 ms gs) : Sea l r (i + 1) 0 ms gs :=
  { good := h.good
    len := by have := h.len; omega
    sh := h.sh
    gl := h.gl
    g0 := fun q hq => by have := h.g0 q hq; omega
    mo := h.mo
    from_ := fun x hx => by
      obtain ⟨g1, g2, g3⟩ := h.from_ x hx
      refine ⟨g1, g2, ?_⟩
      rcases g3 with ⟨q, h1, h2⟩ | ⟨h1, _⟩
      · exact .inl ⟨q, by omega, h2⟩
      · omega }
theorem g0_set {gs : List Int} {b : Int} {c : Nat} (h : ∀ q ∈ gs, 0 ≤ q ∧ q ≤ b) (hb : 0 ≤ b) : ∀ q ∈ gs.set c (gs.getD c 0 + 1), 0 ≤ q ∧ q ≤ b + 1 := fun q hq => by
  have h0 : 0 ≤ gs.getD c 0 ∧ gs.getD c 0 ≤ b := by
    by_cases hc : c < gs.length
    · simp only [List.getD, List.getElem?_eq_getElem hc, Option.getD_some]
      exact h _ (List.getElem_mem _)
    · simp only [List.getD, List.getElem?_eq_none (Nat.le_of_not_lt hc), Option.getD_none]
      exact ⟨Int.le_refl _, hb⟩
  rcases List.mem_or_eq_of_mem_set hq with hq | rfl
  · have := h q hq; omega
  · omega
/-- Behind both clubs of a game, and behind the first one. -/
theorem sea_up {l : Lea} {r : List Ev} {i k : Nat} {ms : List Ev} {gs : List Int} (hS : Sched l) (h : Sea l r i k ms gs) (hr : r.length ≤ 60) (hi : i < l.games.length) (hi40 : l.games.length ≤ 40) (hk : k < 2) (hd : 0 < r.length → lastD r < (l.games.getD i default).day) {c : Int} (hc : c = if k = 1 then (l.games.getD i default).away else (l.games.getD i default).home) {sh : List Int} (hsh : sh.length ≤ 20) (hacc : (runR ((r ++ ms) ++ [⟨(l.games.getD i default).day, 6, 0, c, sh⟩])).2.2 = 0) :
    (k = 0 → Sea l r i 1 (ms ++ [⟨(l.games.getD i default).day, 6, 0, c, sh⟩]) (gs.set c.toNat (gs.getD c.toNat 0 + 1))) ∧ (k = 1 → Sea l r (i + 1) 0 (ms ++ [⟨(l.games.getD i default).day, 6, 0, c, sh⟩]) (gs.set c.toNat (gs.getD c.toNat 0 + 1))) := by
  obtain ⟨ms', rfl, h1, h2, h3, h4, h5⟩ := sea_next hS h hr hi hi40 hk hd hc hsh hacc
  have hg := g0_set (c := c.toNat) h.g0 (by omega)
  refine ⟨fun k0 => ⟨h1, by omega, h3, by rw [List.length_set]; exact h.gl, fun q hq => by have := hg q hq; omega, h4, fun x hx => ?_⟩, fun k1 => ⟨h1, by omega, h3, by rw [List.length_set]; exact h.gl, fun q hq => by have := hg q hq; omega, h4, fun x hx => ?_⟩⟩
  · obtain ⟨g1, g2, g3⟩ := h5 x hx
    refine ⟨g1, g2, ?_⟩
    rcases g3 with g3 | ⟨e1, e2 | ⟨e2, _⟩⟩
    · exact .inl g3
    · exact .inr ⟨Nat.le_refl _, e1, e2⟩
    · omega
  · obtain ⟨g1, g2, g3⟩ := h5 x hx
    refine ⟨g1, g2, .inl ?_⟩
    rcases g3 with ⟨q, g3, g4⟩ | ⟨e1, e2⟩
    · exact ⟨q, by omega, g4⟩
    · refine ⟨i, by omega, e1.symm, ?_⟩
      unfold hasB
      rcases e2 with e2 | ⟨_, e2⟩
      · rw [decide_eq_true e2.symm]; rfl
      · rw [decide_eq_true e2.symm, Bool.or_true]
/-- Who is able, and who is not. -/
theorem sea_able {l : Lea} {r : List Ev} {i k : Nat} {ms : List Ev} {gs : List Int} (hS : Sched l) (h : Sea l r i k ms gs) (hr : r.length ≤ 60) (hi : i < l.games.length) (hi40 : l.games.length ≤ 40) (hk : k < 2) (hd : 0 < r.length → lastD r < (l.games.getD i default).day) {c : Int} (hc : c = if k = 1 then (l.games.getD i default).away else (l.games.getD i default).home) :
    ableR (r ++ ms) c (l.games.getD i default).day = (ableL (runR (r ++ ms)).1 c (l.games.getD i default).day, 0) ∧
    (∀ p, (0 ≤ p ∧ p ≤ 4095) → p ∉ ableL (runR (r ++ ms)).1 c (l.games.getD i default).day → (runR ((r ++ ms) ++ [⟨(l.games.getD i default).day, 6, 0, c, [p]⟩])).2.2 ≠ 0) ∧
    (∀ n, n ≤ 20 → (runR ((r ++ ms) ++ [⟨(l.games.getD i default).day, 6, 0, c, (ableL (runR (r ++ ms)).1 c (l.games.getD i default).day).take n⟩])).2.2 = 0) := by
  obtain ⟨hin, hany, hcr, hlen⟩ := sea_step hS h hr hi hi40 hk hd hc
  have hG := h.good
  have hcb := inB_iff.1 hin.1
  refine ⟨?_, fun p hp hn h0 => ?_, fun n hn => ?_⟩
  · unfold ableR
    rw [if_pos hG.ok, if_pos hin]; rfl
  · have hm := (match_run2 hG (by omega) hcb hin.2 (sh := [p]) (by intro q hq; simp at hq; rw [hq]; exact hp) (List.pairwise_singleton _ _) (by simp)).2 hany
    obtain ⟨m, g1, g2, g3⟩ := hm.1 h0 p (by simp)
    refine hn ?_
    unfold ableL ableN
    rw [List.take_length]
    obtain ⟨g4, g5⟩ := (mo_some hG.srt).1 g1
    refine List.mem_map.2 ⟨m, List.mem_filter.2 ⟨g4, ?_⟩, g5⟩
    unfold ableP
    rw [hG.evs, decide_eq_true g2, decide_eq_true g3]; rfl
  · have hab := fun q hq => mem_able hG.srt (c := c) (d := (l.games.getD i default).day) (q := q) hq
    have hm := (match_run2 hG (by omega) hcb hin.2 (sh := (ableL (runR (r ++ ms)).1 c (l.games.getD i default).day).take n) (fun q hq => by
      obtain ⟨m, g1, _⟩ := hab q (List.mem_of_mem_take hq)
      exact mem_rng hG g1) ((able_pw hG.srt).sublist (List.take_sublist _ _)) (by rw [List.length_take]; omega)).2 hany
    refine hm.2 fun q hq => ?_
    have := hab q (List.mem_of_mem_take hq)
    rwa [hG.evs] at this
theorem sea_back {l : Lea} {r : List Ev} {i : Nat} {ms : List Ev} {gs : List Int} (h : Sea l r i 0 ms gs) {p : Int} {m : Mem} (hm : mo (runR r).1 p = some m) : (backR (r ++ ms) p).2 = 0 ∧ (backR (r ++ ms) p).1.1 = max 0 (m.ban - cntG gs m.club) := by
  have h1 := h.mo p
  rw [hm, Option.map_some] at h1
  obtain ⟨j, hj, h2, h3, _⟩ := mo_fnd h1
  unfold backR
  rw [if_pos h.good.ok, if_neg (by omega), h2, Int.toNat_natCast, h3]
  exact ⟨rfl, rfl⟩
end Go.Proofs.Ytohkngiflfkjjaa
