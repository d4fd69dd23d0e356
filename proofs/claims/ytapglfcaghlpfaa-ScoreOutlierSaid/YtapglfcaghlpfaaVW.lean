/- A part of the proof that the last text ends: what functions of the program do, told by plain data. -/
import Derived.Test.YtapglfcaghlpfaaVU
set_option linter.unusedVariables false
set_option linter.unusedSimpArgs false
namespace Go.Proofs.Ytapglfcaghlpfaa
open Go Go.E Go.Maps
set_option maxRecDepth 100000
theorem end_mem {l : List Int} {j : Nat} {most : Bool} (hj : j < l.length) : ∀ k, k ≤ l.length → (endN l j most k).1 ∈ l
  | 0, _ => by
    show l.getD j default ∈ l
    rw [at_lt hj]; exact List.getElem_mem _
  | k + 1, hk => by
    have ih := end_mem (most := most) hj k (by omega)
    unfold endN
    split
    · rw [at_lt (by omega)]; exact List.getElem_mem _
    · exact ih
theorem endL_mem {l : List Int} {j : Nat} {most : Bool} (hj : j < l.length) : ∀ y ∈ endL l j most, y ∈ l := fun y hy => by
  unfold endL at hy
  rcases List.mem_or_eq_of_mem_set hy with hy | rfl
  · exact hy
  · exact end_mem hj _ (Nat.le_refl _)
theorem endL_len {l : List Int} {j : Nat} {most : Bool} : (endL l j most).length = l.length := by unfold endL; rw [List.length_set]
theorem getD_map' {α β : Type} [Inhabited α] [Inhabited β] {f : α → β} {l : List α} {i : Nat} (h : i < l.length) : (l.map f).getD i default = f (l.getD i default) := by
  rw [at_lt (by rw [List.length_map]; exact h), List.getElem_map, at_lt h]
theorem getD_rng {β : Type} [Inhabited β] {f : Nat → β} {n i : Nat} (h : i < n) : ((List.range n).map f).getD i default = f i := by
  rw [at_lt (by rw [List.length_map, List.length_range]; exact h), List.getElem_map, List.getElem_range]
theorem getD_out {α : Type} [Inhabited α] {l : List α} {i : Nat} (h : l.length ≤ i) : l.getD i default = default := by
  rw [List.getD_eq_getElem?_getD, List.getElem?_eq_none h]; rfl
section
variable {r : Rul} {s : Ska} {j : Nat} {bs : List Int} {z : Nat} {most : Bool}
theorem to_at {i : Nat} (h : i < s.calls.length) : (toS s j most).calls.getD i default = toC j most (s.calls.getD i default) := getD_map' h
theorem toP_at {i : Nat} (h : i < s.parts.length) : (toS s j most).parts.getD i default = toP j most (s.parts.getD i default) := getD_map' h
theorem ch_at {i : Nat} (h : i < s.calls.length) : (chS s j bs z).calls.getD i default = chC bs j (z + i) (s.calls.getD i default) := getD_rng h
theorem chP_at {i : Nat} (h : i < s.parts.length) : (chS s j bs z).parts.getD i default = chP bs j (z + i + 1) (s.parts.getD i default) := getD_rng h
theorem to_len : (toS s j most).calls.length = s.calls.length := by unfold toS; simp only [List.length_map]
theorem toP_len : (toS s j most).parts.length = s.parts.length := by unfold toS; simp only [List.length_map]
theorem ch_len : (chS s j bs z).calls.length = s.calls.length := chcN_len
theorem chP_len : (chS s j bs z).parts.length = s.parts.length := chpN_len
theorem in_marks (h : conOk r (one s) = true) (hj : (j : Int) < (jud (one s)).1) {i : Nat} (hi : i < s.calls.length) : (j < (s.calls.getD i default).marks.length ∧ ((s.calls.getD i default).marks.length : Int) = (jud (one s)).1) ∧ ∀ y ∈ (s.calls.getD i default).marks, -5 ≤ y ∧ y ≤ 5 := by
  obtain ⟨_, _, _, d4, d5⟩ := (con_valid h (s := s) (by simp [one])).cat hi
  exact ⟨⟨by omega, d4.1⟩, d5⟩
theorem in_parts (h : conOk r (one s) = true) (hj : (j : Int) < (jud (one s)).1) {i : Nat} (hi : i < s.parts.length) : (j < (s.parts.getD i default).length ∧ ((s.parts.getD i default).length : Int) = (jud (one s)).1) ∧ ∀ y ∈ s.parts.getD i default, 0 ≤ y ∧ y ≤ 40 := by
  obtain ⟨d4, d5⟩ := (con_valid h (s := s) (by simp [one])).pat hi
  exact ⟨⟨by omega, d4.1⟩, d5⟩
theorem to_alk (h : conOk r (one s) = true) (hj : (j : Int) < (jud (one s)).1) : Alk r s (toS s j most) := by
  refine ⟨to_len, toP_len, rfl, fun i hi => ?_, fun i hi => ?_⟩
  · obtain ⟨⟨k1, _⟩, k2⟩ := in_marks h hj hi
    rw [to_at hi]
    exact ⟨⟨rfl, rfl, rfl⟩, endL_len, fun y hy => k2 y (endL_mem k1 y hy)⟩
  · obtain ⟨⟨k1, _⟩, k2⟩ := in_parts h hj hi
    rw [toP_at hi]
    exact ⟨endL_len, fun y hy => k2 y (endL_mem k1 y hy)⟩
theorem ch_alk (h : conOk r (one s) = true) (hj : (j : Int) < (jud (one s)).1) (hb1 : 1 ≤ bs.length) (hb2 : ∀ b ∈ bs, 0 ≤ b ∧ b ≤ 255) : Alk r s (chS s j bs z) := by
  have hbm : ∀ t, 0 ≤ bs.getD (t % bs.length) default := fun t => by
    have hl : t % bs.length < bs.length := Nat.mod_lt _ (by omega)
    rw [at_lt hl]; exact (hb2 _ (List.getElem_mem _)).1
  refine ⟨ch_len, chP_len, rfl, fun i hi => ?_, fun i hi => ?_⟩
  · obtain ⟨⟨k1, _⟩, k2⟩ := in_marks h hj hi
    rw [ch_at hi]
    refine ⟨⟨rfl, rfl, rfl⟩, by unfold chC; simp only [List.length_set], fun y hy => ?_⟩
    unfold chC at hy
    rcases List.mem_or_eq_of_mem_set hy with hy | rfl
    · exact k2 y hy
    · have := hbm (z + i); omega
  · obtain ⟨⟨k1, _⟩, k2⟩ := in_parts h hj hi
    rw [chP_at hi]
    refine ⟨by unfold chP; rw [List.length_set], fun y hy => ?_⟩
    unfold chP at hy
    rcases List.mem_or_eq_of_mem_set hy with hy | rfl
    · exact k2 y hy
    · have := hbm (z + i + 1); omega
theorem endL_snd {l : List Int} : (cnts (endL l j most)).2 = (cnts l).2 := by unfold endL; exact cnts_snd
/-- From the least of the others to what is given, and from there to the greatest. -/
theorem lo_ups (h : conOk r (one s) = true) (hj : (j : Int) < (jud (one s)).1) (h5 : 5 ≤ (jud (one s)).1) : UpS (toS s j false) (chS s j bs z) ∧ UpP r (toS s j false) (chS s j bs z) := by
  refine ⟨⟨by rw [to_len, ch_len], fun i => ?_⟩, ⟨by rw [toP_len, chP_len], fun i hi => ?_, fun i hi => ?_⟩⟩
  · by_cases hi : i < s.calls.length
    · obtain ⟨⟨k1, k2⟩, _⟩ := in_marks h hj hi
      rw [to_at hi, ch_at hi]
      exact ⟨rfl, rfl, rfl, rfl, by unfold chC toC; simp only; rw [cnts_snd, endL_snd], (cnts_out k1 (by omega) _).1⟩
    · rw [getD_out (by rw [to_len]; omega), getD_out (by rw [ch_len]; omega)]; exact UpC.rfl'
  · rw [toP_len] at hi
    rw [toP_at hi, chP_at hi]
    unfold chP toP; rw [cnts_snd, endL_snd]
  · rw [toP_len] at hi
    obtain ⟨⟨k1, k2⟩, _⟩ := in_parts h hj hi
    rw [toP_at hi, chP_at hi]
    exact (cnts_out k1 (by omega) _).1
theorem hi_ups (h : conOk r (one s) = true) (hj : (j : Int) < (jud (one s)).1) (h5 : 5 ≤ (jud (one s)).1) : UpS (chS s j bs z) (toS s j true) ∧ UpP r (chS s j bs z) (toS s j true) := by
  refine ⟨⟨by rw [to_len, ch_len], fun i => ?_⟩, ⟨by rw [toP_len, chP_len], fun i hi => ?_, fun i hi => ?_⟩⟩
  · by_cases hi : i < s.calls.length
    · obtain ⟨⟨k1, k2⟩, _⟩ := in_marks h hj hi
      rw [to_at hi, ch_at hi]
      exact ⟨rfl, rfl, rfl, rfl, by unfold chC toC; simp only; rw [cnts_snd, endL_snd], (cnts_out k1 (by omega) _).2⟩
    · rw [getD_out (by rw [ch_len]; omega), getD_out (by rw [to_len]; omega)]; exact UpC.rfl'
  · rw [chP_len] at hi
    rw [toP_at hi, chP_at hi]
    unfold chP toP; rw [cnts_snd, endL_snd]
  · rw [chP_len] at hi
    obtain ⟨⟨k1, k2⟩, _⟩ := in_parts h hj hi
    rw [toP_at hi, chP_at hi]
    exact (cnts_out k1 (by omega) _).2
theorem fall_to : ∀ i, ((toS s j most).calls.getD i default).fall = (s.calls.getD i default).fall := fun i => by
  by_cases hi : i < s.calls.length
  · rw [to_at hi]; rfl
  · rw [getD_out (by rw [to_len]; omega), getD_out (by omega)]
theorem fall_ch : ∀ i, ((chS s j bs z).calls.getD i default).fall = (s.calls.getD i default).fall := fun i => by
  by_cases hi : i < s.calls.length
  · rw [ch_at hi]; rfl
  · rw [getD_out (by rw [ch_len]; omega), getD_out (by omega)]
end
theorem out_law {r : Rul} {s : Ska} {j : Nat} {bs : List Int} {z : Nat} (h : conOk r (one s) = true) (hj : (j : Int) < (jud (one s)).1) (h5 : 5 ≤ (jud (one s)).1) (hb1 : 1 ≤ bs.length) (hb2 : ∀ b ∈ bs, 0 ≤ b ∧ b ≤ 255) :
    (conOk r (one (toS s j false)) = true ∧ conOk r (one (chS s j bs z)) = true ∧ conOk r (one (toS s j true)) = true) ∧
    ((progR r (toS s j false)).elements ≤ (progR r (chS s j bs z)).elements ∧ (progR r (toS s j false)).parts ≤ (progR r (chS s j bs z)).parts ∧ (progR r (toS s j false)).total ≤ (progR r (chS s j bs z)).total) ∧
    ((progR r (chS s j bs z)).elements ≤ (progR r (toS s j true)).elements ∧ (progR r (chS s j bs z)).parts ≤ (progR r (toS s j true)).parts ∧ (progR r (chS s j bs z)).total ≤ (progR r (toS s j true)).total) := by
  have o1 := alk_ok h (to_alk (most := false) h hj)
  have o2 := alk_ok h (ch_alk (z := z) h hj hb1 hb2)
  have o3 := alk_ok h (to_alk (most := true) h hj)
  obtain ⟨a1, a2⟩ := lo_ups (bs := bs) (z := z) h hj h5
  obtain ⟨b1, b2⟩ := hi_ups (bs := bs) (z := z) h hj h5
  exact ⟨⟨o1, o2, o3⟩, prog_up (con_valid o1 (by simp [one])) a1 a2 (fun i => by rw [fall_ch, fall_to]) rfl, prog_up (con_valid o2 (by simp [one])) b1 b2 (fun i => by rw [fall_ch, fall_to]) rfl⟩
end Go.Proofs.Ytapglfcaghlpfaa
