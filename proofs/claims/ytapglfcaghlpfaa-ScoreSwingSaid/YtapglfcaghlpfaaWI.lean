/- A part of the proof that the last text ends: what functions of the program do, told by plain data. -/
import Derived.Test.YtapglfcaghlpfaaWD
import Derived.Test.YtapglfcaghlpfaaVW
set_option linter.unusedVariables false
set_option linter.unusedSimpArgs false
namespace Go.Proofs.Ytapglfcaghlpfaa
open Go Go.E Go.Maps
set_option maxRecDepth 100000
structure Vy (s t : Ska) (j : Nat) : Prop where
  calls : t.calls.length = s.calls.length
  parts : t.parts.length = s.parts.length
  over : t.over = s.over
  call : ∀ i, i < s.calls.length → ∃ v, (-5 ≤ v ∧ v ≤ 5) ∧ t.calls.getD i default = { s.calls.getD i default with marks := (s.calls.getD i default).marks.set j v }
  part : ∀ i, i < s.parts.length → ∃ v, (0 ≤ v ∧ v ≤ 40) ∧ t.parts.getD i default = (s.parts.getD i default).set j v
section
variable {r : Rul} {s t : Ska} {j : Nat} {n : Int}
theorem vy_self (hv : Valid r s n) (hj : (j : Int) < n) : Vy s s j := ⟨rfl, rfl, rfl, fun i hi => by
  obtain ⟨_, _, _, h4, h5⟩ := hv.cat hi
  refine ⟨(s.calls.getD i default).marks.getD j default, h5 _ (by rw [at_lt (l := (s.calls.getD i default).marks) (by omega)]; exact List.getElem_mem _), ?_⟩
  rw [set_self (by omega)], fun i hi => by
  obtain ⟨h4, h5⟩ := hv.pat hi
  refine ⟨(s.parts.getD i default).getD j default, h5 _ (by rw [at_lt (l := s.parts.getD i default) (by omega)]; exact List.getElem_mem _), ?_⟩
  rw [set_self (by omega)]⟩
theorem vy_ch {bs : List Int} {z : Nat} (hb1 : 1 ≤ bs.length) (hb2 : ∀ b ∈ bs, 0 ≤ b ∧ b ≤ 255) : Vy s (chS s j bs z) j := by
  have hbm : ∀ t, 0 ≤ bs.getD (t % bs.length) default := fun t => by
    have hl : t % bs.length < bs.length := Nat.mod_lt _ (by omega)
    rw [at_lt hl]; exact (hb2 _ (List.getElem_mem _)).1
  refine ⟨ch_len, chP_len, rfl, fun i hi => ?_, fun i hi => ?_⟩
  · rw [ch_at hi]
    exact ⟨_, by have := hbm (z + i); omega, rfl⟩
  · rw [chP_at hi]
    exact ⟨_, by have := hbm (z + i + 1); omega, rfl⟩
theorem vy_valid (hv : Valid r s n) (h : Vy s t j) : Valid r t n := by
  refine ⟨hv.bases, hv.base, hv.factor, hv.most, hv.jn, by rw [h.calls]; exact hv.calls, by rw [h.parts]; exact hv.parts, by rw [h.over]; exact hv.over, fun x hx => ?_, fun p hp => ?_⟩
  · obtain ⟨i, hi, rfl⟩ := List.getElem_of_mem hx
    have hi' : i < s.calls.length := by rw [← h.calls]; exact hi
    obtain ⟨v, hv1, e⟩ := h.call i hi'
    obtain ⟨d1, d2, d3, d4, d5⟩ := hv.cat hi'
    rw [at_lt hi] at e
    rw [e]
    refine ⟨d1, d2, d3, by rw [List.length_set]; exact d4, fun y hy => ?_⟩
    rcases List.mem_or_eq_of_mem_set hy with hy | rfl
    · exact d5 y hy
    · exact hv1
  · obtain ⟨i, hi, rfl⟩ := List.getElem_of_mem hp
    have hi' : i < s.parts.length := by rw [← h.parts]; exact hi
    obtain ⟨v, hv1, e⟩ := h.part i hi'
    obtain ⟨d4, d5⟩ := hv.pat hi'
    rw [at_lt hi] at e
    rw [e]
    refine ⟨by rw [List.length_set]; exact d4, fun y hy => ?_⟩
    rcases List.mem_or_eq_of_mem_set hy with hy | rfl
    · exact d5 y hy
    · exact hv1
theorem vy_nodup (h : Vy s t j) (hd : (s.calls.map Cal.place).Nodup) : (t.calls.map Cal.place).Nodup := by
  have e : t.calls.map Cal.place = s.calls.map Cal.place := by
    apply List.ext_getElem (by rw [List.length_map, List.length_map, h.calls])
    intro i h1 h2
    rw [List.length_map] at h1 h2
    obtain ⟨v, _, e⟩ := h.call i h2
    rw [at_lt h1, at_lt h2] at e
    rw [List.getElem_map, List.getElem_map, e]
  rw [e]; exact hd
theorem vy_ok {l : List Ska} (hc : conOk r l = true) (hs : s ∈ l) (h : Vy s t j) : conOk r (one t) = true :=
  conOk_mk (con_ok hc) (vy_valid (con_valid hc hs) h) (vy_nodup h (con_dup hc hs))
theorem vy_giv {g q : Int} (hg : -5 ≤ g ∧ g ≤ 5) (hq : 0 ≤ q ∧ q ≤ 40) : Vy s (givR s j g q) j := by
  refine ⟨by simp [givR], by simp [givR], rfl, fun i hi => ⟨g, hg, ?_⟩, fun i hi => ⟨q, hq, ?_⟩⟩
  · unfold givR; simp only; rw [getD_map' hi]; rfl
  · unfold givR; simp only; rw [getD_map' hi]; rfl
theorem vy_up {u : Ska} (hv : Valid r s n) (hj : (j : Int) < n) (h1 : Vy s t j) (h2 : Vy s u j)
    (hc : ∀ i v w, i < s.calls.length → t.calls.getD i default = { s.calls.getD i default with marks := (s.calls.getD i default).marks.set j v } → u.calls.getD i default = { s.calls.getD i default with marks := (s.calls.getD i default).marks.set j w } → -5 ≤ v ∧ v ≤ 5 → -5 ≤ w ∧ w ≤ 5 → v ≤ w)
    (hp : ∀ i v w, i < s.parts.length → t.parts.getD i default = (s.parts.getD i default).set j v → u.parts.getD i default = (s.parts.getD i default).set j w → 0 ≤ v ∧ v ≤ 40 → 0 ≤ w ∧ w ≤ 40 → v ≤ w) : UpS t u ∧ UpP r t u := by
  refine ⟨⟨by rw [h1.calls, h2.calls], fun i => ?_⟩, ⟨by rw [h1.parts, h2.parts], fun i hi => ?_, fun i hi => ?_⟩⟩
  · by_cases hi : i < s.calls.length
    · obtain ⟨v, hv1, e1⟩ := h1.call i hi
      obtain ⟨w, hw1, e2⟩ := h2.call i hi
      have := hc i v w hi e1 e2 hv1 hw1
      obtain ⟨_, _, _, h4, h5⟩ := hv.cat hi
      rw [e1, e2]
      exact ⟨rfl, rfl, rfl, rfl, by simp only; rw [cnts_snd, cnts_snd], cnts_mono (by omega) this⟩
    · rw [getD_out (by rw [h1.calls]; omega), getD_out (by rw [h2.calls]; omega)]; exact UpC.rfl'
  · rw [h1.parts] at hi
    obtain ⟨v, hv1, e1⟩ := h1.part i hi
    obtain ⟨w, hw1, e2⟩ := h2.part i hi
    rw [e1, e2, cnts_snd, cnts_snd]
  · rw [h1.parts] at hi
    obtain ⟨v, hv1, e1⟩ := h1.part i hi
    obtain ⟨w, hw1, e2⟩ := h2.part i hi
    have := hp i v w hi e1 e2 hv1 hw1
    obtain ⟨h4, h5⟩ := hv.pat hi
    rw [e1, e2]
    exact cnts_mono (by omega) this
theorem vy_fall (h : Vy s t j) : ∀ i, (t.calls.getD i default).fall = (s.calls.getD i default).fall := fun i => by
  by_cases hi : i < s.calls.length
  · obtain ⟨v, _, e⟩ := h.call i hi; rw [e]
  · rw [getD_out (by rw [h.calls]; omega), getD_out (by omega)]
theorem set_el {l : List Int} (hj : j < l.length) {v w : Int} (h : l.set j v = l.set j w) : v = w := by
  have h1 := congrArg (fun x => x.getD j default) h
  simpa [List.getD, List.getElem?_set, hj] using h1
theorem vy_in (hv : Valid r s n) (hj : (j : Int) < n) (h : Vy s t j) : ((endS r j (-5) 0 s).elements ≤ (progR r t).elements ∧ (endS r j (-5) 0 s).total ≤ (progR r t).total) ∧ (progR r t).elements ≤ (endS r j 5 40 s).elements ∧ (progR r t).total ≤ (endS r j 5 40 s).total := by
  have g1 : Vy s (givR s j (-5) 0) j := vy_giv (by omega) (by omega)
  have g2 : Vy s (givR s j 5 40) j := vy_giv (by omega) (by omega)
  have el : ∀ {g q : Int} {i : Nat} {v : Int}, i < s.calls.length → (givR s j g q).calls.getD i default = { s.calls.getD i default with marks := (s.calls.getD i default).marks.set j v } → v = g := fun {g q i v} hi e => by
    have e' : (givR s j g q).calls.getD i default = { s.calls.getD i default with marks := (s.calls.getD i default).marks.set j g } := by
      unfold givR; simp only; rw [getD_map' hi]; rfl
    rw [e'] at e
    exact (set_el (by have := (hv.cat hi).2.2.2.1; omega) (congrArg Cal.marks e)).symm
  have pl : ∀ {g q : Int} {i : Nat} {v : Int}, i < s.parts.length → (givR s j g q).parts.getD i default = (s.parts.getD i default).set j v → v = q := fun {g q i v} hi e => by
    have e' : (givR s j g q).parts.getD i default = (s.parts.getD i default).set j q := by
      unfold givR; simp only; rw [getD_map' hi]; rfl
    rw [e'] at e
    exact (set_el (by have := (hv.pat hi).1; omega) e).symm
  obtain ⟨a1, a2⟩ := vy_up hv hj g1 h (fun i v w hi e1 e2 _ hw => by have := el hi e1; omega) (fun i v w hi e1 e2 _ hw => by have := pl hi e1; omega)
  obtain ⟨b1, b2⟩ := vy_up hv hj h g2 (fun i v w hi e1 e2 hv' _ => by have := el hi e2; omega) (fun i v w hi e1 e2 hv' _ => by have := pl hi e2; omega)
  obtain ⟨q1, _, q3⟩ := prog_up (vy_valid hv g1) a1 a2 (fun i => by rw [vy_fall h, vy_fall g1]) (by rw [h.over, g1.over])
  obtain ⟨p1, _, p3⟩ := prog_up (vy_valid hv h) b1 b2 (fun i => by rw [vy_fall g2, vy_fall h]) (by rw [g2.over, h.over])
  exact ⟨⟨q1, q3⟩, p1, p3⟩
end
def Sle (a b : Sco) : Prop := a.total ≤ b.total ∧ a.elements ≤ b.elements
theorem better_up {a b a' b' : Sco} (h : better a b = true) (h1 : Sle a a') (h2 : Sle b' b) : better a' b' = true := by
  obtain ⟨h3, h4⟩ := h1
  obtain ⟨h5, h6⟩ := h2
  unfold better at h ⊢
  simp only [Bool.or_eq_true, Bool.and_eq_true, decide_eq_true_eq] at h ⊢
  omega
theorem rk_in {W B X : List Sco} {n i : Nat} (hx : ∀ k, k < n → Sle (W.getD k default) (X.getD k default) ∧ Sle (X.getD k default) (B.getD k default)) (hi : i < n) : ∀ k, k ≤ n → cLo W B i k ≤ 1 + bC X (X.getD i default) k ∧ 1 + bC X (X.getD i default) k ≤ cLo B W i k
  | 0, _ => by simp [cLo, bC]
  | k + 1, hk => by
    have ih := rk_in hx hi k (by omega)
    have hxk := hx k (by omega)
    have hxi := hx i hi
    unfold cLo bC beN
    by_cases h1 : better (X.getD k default) (X.getD i default) = true
    · have hki : k ≠ i := fun e => by subst e; rw [better_self] at h1; cases h1
      have h2 := better_up h1 hxk.2 hxi.1
      have h2' : k ≠ i ∧ better (B.getD k default) (W.getD i default) = true := ⟨hki, h2⟩
      rw [if_pos h1, if_pos h2']
      split <;> omega
    · have h2 : ¬ (k ≠ i ∧ better (W.getD k default) (B.getD i default) = true) := fun ⟨_, h2⟩ => h1 (better_up h2 hxk.1 hxi.2)
      rw [if_neg h1, if_neg h2]
      split <;> omega
theorem swing_law {r : Rul} {l : List Ska} {j : Nat} {X : List Sco} (hc : conOk r l = true) (hj : (j : Int) < (jud l).1) (hX : X.length = l.length) (hx : ∀ k, k < l.length → ∃ t, Vy (l.getD k default) t j ∧ X.getD k default = progR r t) {i : Nat} (hi : i < l.length) :
    ((swR r l j).getD i default).lo ≤ (rkR X l.length).getD i default ∧ (rkR X l.length).getD i default ≤ ((swR r l j).getD i default).hi := by
  have e1 : (rkR X l.length).getD i default = 1 + bC X (X.getD i default) l.length := by
    unfold rkR; rw [getD_rng hi, hX]
  rw [swR_at hi, e1]
  refine rk_in (fun k hk => ?_) hi l.length (Nat.le_refl _)
  obtain ⟨t, h1, h2⟩ := hx k hk
  have hm : l.getD k default ∈ l := by rw [at_lt hk]; exact List.getElem_mem _
  obtain ⟨⟨a1, a2⟩, b1, b2⟩ := vy_in (con_valid hc hm) hj h1
  rw [map_at (r := r) hk, map_at (r := r) hk, h2]
  exact ⟨⟨a2, a1⟩, b2, b1⟩
theorem sw_hi {r : Rul} {l : List Ska} {j i : Nat} (hi : i < l.length) : 1 ≤ ((swR r l j).getD i default).lo ∧ ((swR r l j).getD i default).hi ≤ l.length := by
  have h1 : ∀ (W B : List Sco) k, k ≤ l.length → cLo W B i k ≤ 1 + k - if i < k then 1 else 0 := fun W B k => by
    induction k with
    | zero => intro _; simp [cLo]
    | succ k ih =>
      intro hk
      have := ih (by omega)
      unfold cLo
      by_cases h : k = i
      · subst h
        rw [if_neg (by simp), if_pos (by omega)]
        rw [if_neg (by omega)] at this
        omega
      · split <;> split at this <;> split <;> omega
  rw [swR_at hi]
  unfold spn
  have a := cLo_b (l.map (endS r j (-5) 0)) (l.map (endS r j 5 40)) i l.length
  have b := h1 (l.map (endS r j 5 40)) (l.map (endS r j (-5) 0)) l.length (Nat.le_refl _)
  rw [if_pos hi] at b
  simp only
  omega
theorem op_mem {r : Rul} {l : List Ska} {first : Int} {i j : Nat} (hi : i < l.length) (hj : (j : Int) < (jud l).1) (h : opB r l first i j = true) : (i : Int) ∈ opL r l first := by
  unfold opL
  refine List.mem_map.2 ⟨i, List.mem_filter.2 ⟨List.mem_range.2 hi, ?_⟩, rfl⟩
  unfold opI
  rw [List.any_eq_true]
  exact ⟨j, List.mem_range.2 (by omega), h⟩
end Go.Proofs.Ytapglfcaghlpfaa
