/- A part of the proof that the last text ends: what functions of the program do, told by plain data. -/
import Derived.Test.YtohkngiflfkjjaaQB
set_option linter.unusedVariables false
set_option linter.unusedSimpArgs false
namespace Go.Proofs.Ytohkngiflfkjjaa
open Go Go.E
set_option maxRecDepth 100000
/-! ### One event more -/
theorem getD_app {l r : List Ev} {j : Nat} (h : j < l.length) : (l ++ r).getD j default = l.getD j default := by
  rw [at_lt h, at_lt (by rw [List.length_append]; omega), List.getElem_append_left h]
theorem stJ_app {l r : List Ev} : ∀ {j : Nat}, j ≤ l.length → stJ (l ++ r) j = stJ l j
  | 0, _ => rfl
  | j + 1, h => by
    show (doR (stJ (l ++ r) j) ((l ++ r).getD j default)).1 = (doR (stJ l j) (l.getD j default)).1
    rw [stJ_app (by omega), getD_app (by omega)]
theorem acc_app {l r : List Ev} {j : Nat} (h : j < l.length) : Acc (l ++ r) j ↔ Acc l j := by
  unfold Acc
  rw [stJ_app (by omega), getD_app h]
  by_cases h0 : 0 < j
  · rw [getD_app (by omega)]
  · exact ⟨fun h => ⟨h.1, fun h' => absurd h' h0, h.2.2⟩, fun h => ⟨h.1, fun h' => absurd h' h0, h.2.2⟩⟩
theorem getD_new {l : List Ev} {x : Ev} : (l ++ [x]).getD l.length default = x := by
  rw [at_lt (by simp)]; simp
def lateE (l : List Ev) (d : Int) : Prop := 0 < l.length → (l.getD (l.length - 1) default).day ≤ d
/-- One event more, that is not refused for its form. -/
theorem run_snoc {l : List Ev} {x : Ev} (h : (runR l).2.2 = 0) (hl : l.length < 256) (hx : evOk x = true) (hd : lateE l x.day) : runR (l ++ [x]) = if (doR (runR l).1 x).2 = 0 then ((doR (runR l).1 x).1, l.length + 1, 0) else ((runR l).1, l.length, (doR (runR l).1 x).2) := by
  obtain ⟨h1, h2, h3⟩ := run_ok h
  have hlen : (l ++ [x]).length = l.length + 1 := by simp
  have hst : stJ (l ++ [x]) l.length = (runR l).1 := by rw [stJ_app (Nat.le_refl _), h1]
  have hga : ∀ j, j < l.length → Acc (l ++ [x]) j := fun j hj => (acc_app hj).2 (h3 j hj)
  have hord : 0 < l.length → ((l ++ [x]).getD (l.length - 1) default).day ≤ ((l ++ [x]).getD l.length default).day := fun h0 => by
    rw [getD_new, getD_app (by omega)]; exact hd h0
  have hacc : Acc (l ++ [x]) l.length ↔ (doR (runR l).1 x).2 = 0 := by
    unfold Acc
    rw [hst, getD_new] at *
    exact ⟨fun h => h.2.2, fun h => ⟨hx, hord, h⟩⟩
  by_cases c : (doR (runR l).1 x).2 = 0
  · rw [if_pos c]
    have := run_all (l := l ++ [x]) (by omega) (fun j hj => by
      rcases Nat.lt_or_ge j l.length with h' | h'
      · exact hga j h'
      · obtain rfl : j = l.length := by omega
        exact hacc.2 c)
    rw [this, hlen]
    congr 1
    show (doR (stJ (l ++ [x]) l.length) ((l ++ [x]).getD l.length default)).1 = _
    rw [hst, getD_new]
  · rw [if_neg c]
    have := run_of (l := l ++ [x]) (by omega) (n := l.length) (by omega) hga (fun _ h' => c (hacc.1 h'))
    rw [this, if_neg (by omega), hst]
    congr 2
    unfold errJ
    rw [getD_new, if_pos hx, hst, if_neg]
    rintro ⟨h0, h4⟩
    have := hord h0
    rw [getD_new] at this
    omega
theorem run_snoc_ok {l : List Ev} {x : Ev} (h : (runR l).2.2 = 0) (hl : l.length < 256) (hx : evOk x = true) (hd : lateE l x.day) (ha : AccD (runR l).1 x) : runR (l ++ [x]) = ((doR (runR l).1 x).1, l.length + 1, 0) := by
  rw [run_snoc h hl hx hd, if_pos (doR_zero.2 ha)]
/-! ### What members are -/
def Rng (s : St) : Prop := ∀ m ∈ s.mem, (0 ≤ m.person ∧ m.person ≤ 4095) ∧ (0 ≤ m.club ∧ m.club ≤ 255)
theorem doR_rng {s : St} {x : Ev} (h : Rng s) (hx : evOk x = true) (h0 : (doR s x).2 = 0) : Rng (doR s x).1 := by
  have hn := ev_rng hx
  by_cases k0 : x.kind = 0
  · have hp := ev_person hx (by omega)
    unfold Rng
    rw [doR_mem0 h0 k0]
    intro m hm
    rcases mem_insM.1 hm with rfl | hm
    · exact ⟨hp, hn.1, hn.2.1⟩
    · exact h m hm
  by_cases k6 : x.kind = 6
  · unfold Rng
    rw [doR_mem6 h0 k6]
    intro m hm
    obtain ⟨a, ha, rfl⟩ := List.mem_map.1 hm
    have := h a ha
    unfold gam
    split
    · exact this
    · exact this
  · obtain ⟨j, m0, hj, g1, g2, g3, g4, g5⟩ := doR_mem1 h0 k0 k6
    unfold Rng
    rw [g5]
    intro m hm
    rcases List.mem_or_eq_of_mem_set hm with hm | rfl
    · exact h m hm
    · have := h m0 (by rw [← g1, at_lt hj]; exact List.getElem_mem _)
      have hc : (oneR m0 x).1.club = m0.club := by
        unfold oneR
        repeat' split
        all_goals rfl
      rw [one_person, hc]; exact this
theorem stJ_rng {l : List Ev} : ∀ {j : Nat}, (∀ i, i < j → Acc l i) → Rng (stJ l j)
  | 0, _ => fun m hm => by cases hm
  | j + 1, h => doR_rng (stJ_rng fun i hi => h i (by omega)) (h j (by omega)).1 (h j (by omega)).2.2
/-- All that is known behind accepted events. -/
structure Good (l : List Ev) : Prop where
  ok : (runR l).2.2 = 0
  n : (runR l).2.1 = l.length
  le : l.length ≤ 256
  srt : Srt (runR l).1.mem
  rng : Rng (runR l).1
  evs : (runR l).1.evs = l
  inv : (∀ x ∈ l, x.sheet.length ≤ 100000) → InvR l.length (runR l).1
  acc : ∀ j, j < l.length → Acc l j
theorem good_of {l : List Ev} (h : (runR l).2.2 = 0) : Good l := by
  obtain ⟨h1, h2, h3⟩ := run_ok h
  refine ⟨h, by rw [h1], h2, runR_srt, by rw [h1]; exact stJ_rng h3, ?_, fun hs => by rw [h1]; exact stJ_inv hs (Nat.le_refl _) h3, h3⟩
  rw [h1]
  show (stJ l l.length).evs = l
  rw [stJ_evs (Nat.le_refl _) h3, List.take_length]
theorem Good.snoc {l : List Ev} {x : Ev} (h : Good l) (hl : l.length < 256) (hx : evOk x = true) (hd : lateE l x.day) (ha : AccD (runR l).1 x) : Good (l ++ [x]) ∧ (runR (l ++ [x])).1 = (doR (runR l).1 x).1 := by
  have := run_snoc_ok h.ok hl hx hd ha
  exact ⟨good_of (by rw [this]), by rw [this]⟩
theorem Good.mo_snoc {l : List Ev} {x : Ev} (h : Good l) (hl : l.length < 256) (hx : evOk x = true) (hd : lateE l x.day) (ha : AccD (runR l).1 x) (p : Int) : mo (runR (l ++ [x])).1 p = stepM x p (mo (runR l).1 p) := by
  rw [(h.snoc hl hx hd ha).2]
  exact mo_step h.srt (doR_zero.2 ha) p
end Go.Proofs.Ytohkngiflfkjjaa
