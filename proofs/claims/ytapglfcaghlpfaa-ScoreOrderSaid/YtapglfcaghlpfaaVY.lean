/- A part of the proof that the last text ends: what functions of the program do, told by plain data. -/
import Derived.Test.YtapglfcaghlpfaaVW
set_option linter.unusedVariables false
set_option linter.unusedSimpArgs false
namespace Go.Proofs.Ytapglfcaghlpfaa
open Go Go.E Go.Maps
set_option maxRecDepth 100000
/-! ### Another order -/
theorem cnts_perm {l m : List Int} (h : l.Perm m) (h1 : 1 ≤ l.length) : cnts l = cnts m := by
  have hl := h.length_eq
  have hM := cmax_mem h1 l.length (Nat.le_refl _)
  have hM' := cmax_mem (l := m) (by omega) m.length (Nat.le_refl _)
  have hm := cmin_mem h1 l.length (Nat.le_refl _)
  have hm' := cmin_mem (l := m) (by omega) m.length (Nat.le_refl _)
  have mx : cmax l l.length = cmax m m.length := by
    refine Int.le_antisymm ?_ ?_
    · obtain ⟨i, hi, e⟩ := List.getElem_of_mem (h.mem_iff.1 hM.1)
      have := hM'.2 i hi
      rw [at_lt hi, e] at this; exact this
    · obtain ⟨i, hi, e⟩ := List.getElem_of_mem (h.mem_iff.2 hM'.1)
      have := hM.2 i hi
      rw [at_lt hi, e] at this; exact this
  have mn : cmin l l.length = cmin m m.length := by
    refine Int.le_antisymm ?_ ?_
    · obtain ⟨i, hi, e⟩ := List.getElem_of_mem (h.mem_iff.2 hm'.1)
      have := hm.2 i hi
      rw [at_lt hi, e] at this; exact this
    · obtain ⟨i, hi, e⟩ := List.getElem_of_mem (h.mem_iff.1 hm.1)
      have := hm'.2 i hi
      rw [at_lt hi, e] at this; exact this
  have hs : csum l l.length = csum m m.length := by rw [csum_all, csum_all, perm_sum h]
  unfold cnts
  rw [hs, mx, mn, hl]
theorem rot_eq {α : Type} [Inhabited α] {l : List α} {t : Nat} : rotN l t l.length = l.drop (t % l.length) ++ l.take (t % l.length) := by
  rcases Nat.eq_zero_or_pos l.length with h | h
  · obtain rfl := List.eq_nil_of_length_eq_zero h; simp [rotN]
  have ht := Nat.mod_lt t h
  apply List.ext_getElem
  · rw [rotN_len, List.length_append, List.length_drop, List.length_take]; omega
  intro i h1 h2
  rw [rotN_len] at h1
  have e : (i + t) % l.length = if i + t % l.length < l.length then i + t % l.length else i + t % l.length - l.length := by
    rw [← Nat.add_mod_mod]
    split
    · exact Nat.mod_eq_of_lt ‹_›
    · rw [Nat.mod_eq_sub_mod (by omega), Nat.mod_eq_of_lt (by omega)]
  have er : ∀ (h : i < (rotN l t l.length).length), (rotN l t l.length)[i] = l.getD ((i + t) % l.length) default := fun h => by simp only [rotN, List.getElem_map, List.getElem_range]
  rw [er, e, List.getElem_append]
  simp only [List.length_drop]
  split
  · rw [dif_pos (by omega), List.getElem_drop, at_lt (by omega)]; exact getElem_congr_idx (by omega)
  · rw [dif_neg (by omega), List.getElem_take, at_lt (by omega)]; exact getElem_congr_idx (by omega)
theorem rot_perm {α : Type} [Inhabited α] {l : List α} {t : Nat} : (rotN l t l.length).Perm l := by
  rw [rot_eq]
  exact List.perm_append_comm.trans (by rw [List.take_append_drop])
def kk (n t : Nat) (back : Bool) (i : Nat) : Nat := if back = true then n - 1 - (i + t) % n else (i + t) % n
def ordN {α : Type} [Inhabited α] (l : List α) (t : Nat) (back : Bool) (k : Nat) : List α := (List.range k).map fun i => l.getD (kk l.length t back i) default
theorem ordN_succ {α : Type} [Inhabited α] {l : List α} {t : Nat} {back : Bool} {k : Nat} : ordN l t back (k + 1) = ordN l t back k ++ [l.getD (kk l.length t back k) default] := by
  unfold ordN; rw [List.range_succ, List.map_append]; rfl
theorem ordN_len {α : Type} [Inhabited α] {l : List α} {t : Nat} {back : Bool} {k : Nat} : (ordN l t back k).length = k := by unfold ordN; rw [List.length_map, List.length_range]
theorem kk_lt {n t : Nat} {back : Bool} {i : Nat} (h : i < n) : kk n t back i < n := by
  have := Nat.mod_lt (i + t) (show 0 < n by omega)
  unfold kk; split <;> omega
theorem ord_perm {α : Type} [Inhabited α] {l : List α} {t : Nat} {back : Bool} : (ordN l t back l.length).Perm l := by
  cases back with
  | false => exact rot_perm (l := l) (t := t)
  | true =>
    have e : ordN l t true l.length = rotN l.reverse t l.reverse.length := by
      unfold ordN rotN
      rw [List.length_reverse]
      apply List.map_congr_left
      intro i hi
      have hi := List.mem_range.1 hi
      have hm := Nat.mod_lt (i + t) (show 0 < l.length by omega)
      have ek : kk l.length t true i = l.length - 1 - (i + t) % l.length := rfl
      rw [ek, at_lt (by omega), at_lt (by rw [List.length_reverse]; exact hm), List.getElem_reverse]
    rw [e]
    exact rot_perm.trans (List.reverse_perm l)
def turnC (j : Nat) (c : Cal) : Cal := { c with marks := rotN c.marks j c.marks.length }
def turnP (j : Nat) (p : List Int) : List Int := rotN p j p.length
def ordS (s : Ska) (t j : Nat) (back : Bool) : Ska := ⟨(ordN s.calls t back s.calls.length).map (turnC j), (rotN s.parts t s.parts.length).map (turnP j), s.over⟩
section
variable {r : Rul} {s : Ska} {t j : Nat} {back : Bool}
theorem os_len : (ordS s t j back).calls.length = s.calls.length := by unfold ordS; simp only [List.length_map, ordN_len]
theorem os_plen : (ordS s t j back).parts.length = s.parts.length := by unfold ordS; simp only [List.length_map, rotN_len]
theorem os_at {i : Nat} (h : i < s.calls.length) : (ordS s t j back).calls.getD i default = turnC j (s.calls.getD (kk s.calls.length t back i) default) := by
  unfold ordS
  simp only
  rw [getD_map' (by rw [ordN_len]; exact h)]
  unfold ordN
  rw [getD_rng h]
theorem forall_perm {α : Type} {P : α → Prop} {l m : List α} (h : l.Perm m) : (∀ x ∈ l, P x) ↔ ∀ x ∈ m, P x := ⟨fun q x hx => q x (h.mem_iff.2 hx), fun q x hx => q x (h.mem_iff.1 hx)⟩
theorem os_valid {n : Int} : Valid r (ordS s t j back) n ↔ Valid r s n := by
  have hc : ∀ {P : Cal → Prop}, (∀ x ∈ (ordS s t j back).calls, P x) ↔ ∀ x ∈ s.calls, P (turnC j x) := fun {P} => by
    unfold ordS
    simp only
    rw [List.forall_mem_map]
    exact forall_perm ord_perm
  have hp : ∀ {P : List Int → Prop}, (∀ x ∈ (ordS s t j back).parts, P x) ↔ ∀ x ∈ s.parts, P (turnP j x) := fun {P} => by
    unfold ordS
    simp only
    rw [List.forall_mem_map]
    exact forall_perm rot_perm
  constructor
  · intro h
    refine ⟨h.bases, h.base, h.factor, h.most, h.jn, by rw [← os_len (s := s) (t := t) (j := j) (back := back)]; exact h.calls, by rw [← os_plen (s := s) (t := t) (j := j) (back := back)]; exact h.parts, h.over, fun x hx => ?_, fun x hx => ?_⟩
    · obtain ⟨d1, d2, d3, d4, d5⟩ := hc.1 h.call x hx
      have e : (turnC j x).marks.length = x.marks.length := rotN_len
      rw [e] at d4
      exact ⟨d1, d2, d3, d4, (forall_perm rot_perm).1 d5⟩
    · obtain ⟨d4, d5⟩ := hp.1 h.part x hx
      have e : (turnP j x).length = x.length := rotN_len
      rw [e] at d4
      exact ⟨d4, (forall_perm rot_perm).1 d5⟩
  · intro h
    refine ⟨h.bases, h.base, h.factor, h.most, h.jn, by rw [os_len]; exact h.calls, by rw [os_plen]; exact h.parts, h.over, hc.2 fun x hx => ?_, hp.2 fun x hx => ?_⟩
    · obtain ⟨d1, d2, d3, d4, d5⟩ := h.call x hx
      have e : (turnC j x).marks.length = x.marks.length := rotN_len
      rw [← e] at d4
      exact ⟨d1, d2, d3, d4, (forall_perm rot_perm).2 d5⟩
    · obtain ⟨d4, d5⟩ := h.part x hx
      have e : (turnP j x).length = x.length := rotN_len
      rw [← e] at d4
      exact ⟨d4, (forall_perm rot_perm).2 d5⟩
theorem os_nodup : ((ordS s t j back).calls.map Cal.place).Nodup ↔ (s.calls.map Cal.place).Nodup := by
  have e : (ordS s t j back).calls.map Cal.place = (ordN s.calls t back s.calls.length).map Cal.place := by
    unfold ordS
    simp only [List.map_map]
    rfl
  rw [e]
  exact (ord_perm.map _).nodup_iff
theorem os_ok : conOk r (one (ordS s t j back)) = conOk r (one s) := by
  rw [Bool.eq_iff_iff]
  constructor
  · intro h
    exact conOk_mk (con_ok h) (os_valid.1 (con_valid h (s := ordS s t j back) (by simp [one]))) (os_nodup.1 (con_dup h (s := ordS s t j back) (by simp [one])))
  · intro h
    exact conOk_mk (con_ok h) (os_valid.2 (con_valid h (s := s) (by simp [one]))) (os_nodup.2 (con_dup h (s := s) (by simp [one])))
theorem valC_turn {c : Cal} (h : 1 ≤ c.marks.length) : valC r (turnC j c) = valC r c := by
  have e : cnts (turnC j c).marks = cnts c.marks := cnts_perm (l := rotN c.marks j c.marks.length) rot_perm (by rw [rotN_len]; exact h)
  unfold valC
  rw [e]
  rfl
theorem cntE_turn {c : Cal} : cntE (ordS s t j back).calls (turnC j c) (ordS s t j back).calls.length = cntE s.calls c s.calls.length := by
  rw [cntE_count _ _ _ (Nat.le_refl _), cntE_count _ _ _ (Nat.le_refl _), List.take_length, List.take_length]
  unfold ordS
  simp only
  rw [List.countP_map]
  exact congrArg _ ((ord_perm (l := s.calls) (t := t) (back := back)).countP_eq _)
theorem valR_turn {n : Int} (hv : Valid r s n) {i : Nat} (hi : i < s.calls.length) : valR r (ordS s t j back) i = valR r s (kk s.calls.length t back i) := by
  rw [valR_eq, valR_eq]
  unfold countsB
  rw [os_at hi, cntE_turn, valC_turn (hv.cat (kk_lt hi)).2.2.2.1.2]
theorem vals_turn {n : Int} (hv : Valid r s n) : valsR r (ordS s t j back) s.calls.length = ordN (valsR r s s.calls.length) t back s.calls.length := by
  unfold valsR ordN
  apply List.map_congr_left
  intro i hi
  have hi := List.mem_range.1 hi
  rw [valR_turn hv hi, List.length_map, List.length_range, getD_rng (kk_lt hi)]
theorem fl_perm {l m : List Cal} (h : l.Perm m) : flL l l.length = flL m m.length := by
  have e : ∀ (l : List Cal) k, k ≤ l.length → flL l k = (l.take k).countP Cal.fall := fun l k => by
    induction k with
    | zero => intro _; rfl
    | succ k ih =>
      intro hk
      unfold flL
      rw [ih (by omega), List.take_succ_eq_append_getElem (by omega), List.countP_append, at_lt (by omega)]
      unfold fl1
      simp [List.countP_cons]
  rw [e l _ (Nat.le_refl _), e m _ (Nat.le_refl _), List.take_length, List.take_length, h.countP_eq]
theorem fl_turn {l : List Cal} : flL (l.map (turnC j)) l.length = flL l l.length := by
  have : ∀ k, k ≤ l.length → flL (l.map (turnC j)) k = flL l k := fun k => by
    induction k with
    | zero => intro _; rfl
    | succ k ih =>
      intro hk
      unfold flL
      rw [ih (by omega), getD_map' (by omega)]; rfl
  exact this _ (Nat.le_refl _)
theorem paL_sum {l : List (List Int)} : paL r l l.length = (l.map (paV r)).sum := by
  have : ∀ k, k ≤ l.length → paL r l k = ((l.take k).map (paV r)).sum := fun k => by
    induction k with
    | zero => intro _; rfl
    | succ k ih =>
      intro hk
      unfold paL
      rw [ih (by omega), List.take_succ_eq_append_getElem (by omega), List.map_append, List.sum_append, at_lt (by omega)]
      simp
  rw [this _ (Nat.le_refl _), List.take_length]
theorem prog_turn {n : Int} (hv : Valid r s n) : progR r (ordS s t j back) = progR r s := by
  have e1 : elR r (ordS s t j back) s.calls.length = elR r s s.calls.length := by
    rw [← csum_vals (r := r) (s := ordS s t j back) (n := s.calls.length) _ (Nat.le_refl _), ← csum_vals (r := r) (s := s) (n := s.calls.length) _ (Nat.le_refl _), vals_turn hv]
    have h1 : (ordN (valsR r s s.calls.length) t back s.calls.length).length = s.calls.length := ordN_len
    have h2 : (valsR r s s.calls.length).length = s.calls.length := valsR_len
    have h3 := ord_perm (l := valsR r s s.calls.length) (t := t) (back := back)
    rw [h2] at h3
    have h4 := perm_sum h3
    rw [← csum_all, ← csum_all, h1, h2] at h4
    exact h4
  have e2 : paR r (ordS s t j back) s.parts.length = paR r s s.parts.length := by
    rw [paR_L, paR_L]
    have h1 : (ordS s t j back).parts.length = s.parts.length := os_plen
    have h2 := paL_sum (r := r) (l := (ordS s t j back).parts)
    rw [h1] at h2
    rw [h2, paL_sum]
    unfold ordS
    simp only [List.map_map]
    have h3 : (rotN s.parts t s.parts.length).map (paV r ∘ turnP j) = (rotN s.parts t s.parts.length).map (paV r) := by
      apply List.map_congr_left
      intro p hp
      have hm := (hv.part p (rot_perm.mem_iff.1 hp)).1.2
      have e : cnts (turnP j p) = cnts p := cnts_perm (l := rotN p j p.length) rot_perm (by rw [rotN_len]; exact hm)
      show paV r (turnP j p) = paV r p
      unfold paV
      rw [e]
    rw [h3]
    exact perm_sum (rot_perm.map _)
  have e3 : flR (ordS s t j back) s.calls.length = flR s s.calls.length := by
    rw [flR_L, flR_L]
    have h1 := fl_turn (j := j) (l := ordN s.calls t back s.calls.length)
    rw [ordN_len] at h1
    have h2 := fl_perm (ord_perm (l := s.calls) (t := t) (back := back))
    rw [ordN_len] at h2
    exact h1.trans h2
  unfold progR
  rw [os_len, os_plen, e1, e2, e3]
  rfl
end
end Go.Proofs.Ytapglfcaghlpfaa
