/- A part of the proof that the last text ends: what functions of the program do, told by plain data. -/
import Derived.Test.YtapglfcaghlpfaaVD
set_option linter.unusedVariables false
set_option linter.unusedSimpArgs false
namespace Go.Proofs.Ytapglfcaghlpfaa
open Go Go.E Go.Maps
set_option maxRecDepth 100000
/-! ### What makes a contest of one skating -/
theorem okN_mk {r : Rul} {n : Int} {l : List Cal} : ∀ k i, (∀ j, i ≤ j → j < i + k → dupB l j = false ∧ callOk r (l.getD j default) n = true) → okN r n l k i = true
  | 0, _, _ => rfl
  | k + 1, i, h => by
    have h1 := h i (Nat.le_refl _) (by omega)
    unfold okN
    rw [if_neg (by rw [h1.1]; simp), if_pos h1.2]
    exact okN_mk k (i + 1) fun j hj hk => h j (by omega) (by omega)
theorem dup_nd {l : List Cal} (h : (l.map Cal.place).Nodup) {i : Nat} (hi : i < l.length) : dupB l i = false := by
  unfold dupB
  rw [List.any_eq_false]
  intro y hy
  obtain ⟨m, hm, e⟩ := List.getElem_of_mem hy
  have hm' : m < i := by have := hm; rw [List.length_take] at this; omega
  rw [List.getElem_take] at e
  simp only [decide_eq_true_eq]
  intro hp
  rw [at_lt hi, ← e] at hp
  have h1 := List.getElem_inj (i := m) (j := i) (h₀ := by rw [List.length_map]; omega) (h₁ := by rw [List.length_map]; omega) h
  rw [List.getElem_map, List.getElem_map] at h1
  have := h1.1 hp
  omega
theorem marksOk_mk {l : List Int} {n lo hi : Int} (h1 : (l.length : Int) = n) (h2 : ∀ y ∈ l, lo ≤ y ∧ y ≤ hi) : marksOk l n lo hi = true := by
  unfold marksOk allB
  simp only [Bool.and_eq_true, decide_eq_true_eq, List.all_eq_true, inB_iff]
  exact ⟨h1, h2⟩
theorem conOk_mk {r : Rul} {s : Ska} {n : Int} (hr : r.ok = true) (hv : Valid r s n) (hd : (s.calls.map Cal.place).Nodup) : conOk r (one s) = true := by
  have hj : jud (one s) = if 0 < s.calls.length then (((s.calls.getD 0 default).marks.length : Int), true) else if 0 < s.parts.length then ((s.parts.getD 0 default).length, true) else (0, false) := rfl
  have hall : ∀ m : Int, (0 < s.calls.length ∨ 0 < s.parts.length → m = n) → skaOk r s m = true := fun m hm => by
    unfold skaOk
    simp only [Bool.and_eq_true, decide_eq_true_eq, inB_iff]
    refine ⟨⟨⟨⟨hv.calls, hv.parts⟩, hv.over⟩, okN_mk _ _ fun j _ hj => ⟨dup_nd hd (by omega), ?_⟩⟩, ?_⟩
    · obtain ⟨d1, d2, d3, d4, d5⟩ := hv.cat (i := j) (by omega)
      unfold callOk
      simp only [Bool.and_eq_true, inB_iff]
      exact ⟨d1, by omega, d3, marksOk_mk (by rw [hm (.inl (by omega))]; exact d4.1) d5⟩
    · unfold partsOk
      rw [List.all_eq_true]
      intro p hp
      have := hv.part p hp
      exact marksOk_mk (by rw [hm (.inr (List.length_pos_of_mem hp))]; exact this.1.1) this.2
  unfold conOk
  simp only [Bool.and_eq_true]
  refine ⟨⟨hr, ?_⟩, ?_⟩
  · rw [hj]
    split
    · rename_i h
      have := (hv.cat (i := 0) h).2.2.2.1
      have := hv.jn
      simp only [Bool.not_true, Bool.false_or]
      rw [inB_iff]; omega
    · split
      · rename_i h
        have := (hv.part (s.parts.getD 0 default) (by rw [at_lt h]; exact List.getElem_mem _)).1
        have := hv.jn
        simp only [Bool.not_true, Bool.false_or]
        rw [inB_iff]; omega
      · rfl
  · unfold one
    simp only [List.all_cons, List.all_nil, Bool.and_true]
    refine hall _ fun h => ?_
    show (jud (one s)).1 = n
    rw [hj]
    split
    · rename_i h
      exact (hv.cat (i := 0) h).2.2.2.1.1
    · rw [if_pos (by omega)]
      rename_i h1
      have h2 : 0 < s.parts.length := by omega
      exact (hv.part (s.parts.getD 0 default) (by rw [at_lt h2]; exact List.getElem_mem _)).1.1
theorem con_ok {r : Rul} {l : List Ska} (h : conOk r l = true) : r.ok = true := by
  unfold conOk at h
  simp only [Bool.and_eq_true] at h
  exact h.1.1
/-! ### Later, with one more fall, with a higher mark -/
def lateS (s : Ska) : Ska := { s with over := min 600 (s.over + 5) }
def callS (s : Ska) (k : Nat) (c : Cal) : Ska := { s with calls := s.calls.set k c }
def fallC (c : Cal) : Cal := { c with fall := true }
def moreC (j : Nat) (c : Cal) : Cal := { c with marks := c.marks.set j (min 5 (c.marks.getD j default + 1)) }
theorem cset_at {l : List Cal} {j : Nat} {v : Cal} {k : Nat} (hj : j < l.length) : (l.set j v).getD k default = if k = j then v else l.getD k default := by
  rw [List.getD_eq_getElem?_getD, List.getElem?_set, List.getD_eq_getElem?_getD]
  by_cases h : j = k
  · subst h; simp [hj]
  · rw [if_neg h, if_neg (fun e => h e.symm)]
theorem map_set_same {α β : Type} [Inhabited α] {f : α → β} {l : List α} {k : Nat} {c : α} (hk : k < l.length) (h : f c = f (l.getD k default)) : (l.set k c).map f = l.map f := by
  rw [List.map_set, h, at_lt hk]
  have e : (l.map f)[k]'(by rw [List.length_map]; exact hk) = f l[k] := List.getElem_map ..
  rw [← e]
  exact List.set_getElem_self _
theorem late_ok {r : Rul} {s : Ska} (h : conOk r (one s) = true) : conOk r (one (lateS s)) = true := by
  have hv := con_valid h (s := s) (by simp [one])
  have hd := con_dup h (s := s) (by simp [one])
  have ho := hv.over
  exact conOk_mk (con_ok h) ⟨hv.bases, hv.base, hv.factor, hv.most, hv.jn, hv.calls, hv.parts, by unfold lateS; simp only; omega, hv.call, hv.part⟩ hd
theorem call_ok {r : Rul} {s : Ska} (h : conOk r (one s) = true) {k : Nat} (hk : k < s.calls.length) {c : Cal} (h1 : c.place = (s.calls.getD k default).place) (h2 : c.elem = (s.calls.getD k default).elem) (h3 : c.under = (s.calls.getD k default).under)
    (h4 : c.marks.length = (s.calls.getD k default).marks.length) (h5 : ∀ y ∈ c.marks, -5 ≤ y ∧ y ≤ 5) : conOk r (one (callS s k c)) = true := by
  have hv := con_valid h (s := s) (by simp [one])
  have hd := con_dup h (s := s) (by simp [one])
  refine conOk_mk (con_ok h) ⟨hv.bases, hv.base, hv.factor, hv.most, hv.jn, by unfold callS; simp only [List.length_set]; exact hv.calls, hv.parts, hv.over, fun x hx => ?_, hv.part⟩ ?_
  · unfold callS at hx
    rcases List.mem_or_eq_of_mem_set hx with hx | rfl
    · exact hv.call x hx
    · obtain ⟨d1, d2, d3, d4, d5⟩ := hv.cat hk
      rw [h1, h2, h3, h4]
      exact ⟨d1, d2, d3, d4, h5⟩
  · unfold callS
    simp only
    rw [map_set_same hk h1]; exact hd
theorem late_el {r : Rul} {s : Ska} : ∀ k, elR r (lateS s) k = elR r s k
  | 0 => rfl
  | k + 1 => by unfold elR; rw [late_el k]; rfl
theorem late_pa {r : Rul} {s : Ska} : ∀ k, paR r (lateS s) k = paR r s k
  | 0 => rfl
  | k + 1 => by unfold paR; rw [late_pa k]; rfl
theorem late_fl {s : Ska} : ∀ k, flR (lateS s) k = flR s k
  | 0 => rfl
  | k + 1 => by unfold flR; rw [late_fl k]; rfl
theorem call_pa {r : Rul} {s : Ska} {j : Nat} {c : Cal} : ∀ k, paR r (callS s j c) k = paR r s k
  | 0 => rfl
  | k + 1 => by unfold paR; rw [call_pa k]; rfl
theorem off_mono {f f' : Nat} {a b : Int} (h : offN f ≤ offN f') (hs : a ≤ b) : off f a ≤ off f' b := by
  unfold off
  omega
theorem late_law {r : Rul} {s : Ska} (h : conOk r (one s) = true) : (progR r (lateS s)).total ≤ (progR r s).total ∧ (progR r (lateS s)).elements = (progR r s).elements ∧ (progR r s).off ≤ (progR r (lateS s)).off := by
  have ho := (con_valid h (s := s) (by simp [one])).over
  have h1 : off (flR s s.calls.length) s.over ≤ off (flR (lateS s) (lateS s).calls.length) (lateS s).over := by
    rw [late_fl]
    exact off_mono (Int.le_refl _) (by unfold lateS; simp only; omega)
  have h2 : elR r (lateS s) (lateS s).calls.length = elR r s s.calls.length := late_el _
  have h3 : paR r (lateS s) (lateS s).parts.length = paR r s s.parts.length := late_pa _
  unfold progR
  simp only
  rw [h2, h3]
  exact ⟨by omega, rfl, h1⟩
theorem offN_mono {a b : Nat} (h : a ≤ b) : offN a ≤ offN b := by
  induction b with
  | zero => rw [show a = 0 by omega]; exact Int.le_refl _
  | succ b ih =>
    by_cases c : a = b + 1
    · rw [c]; exact Int.le_refl _
    · have := ih (by omega)
      have h2 : 0 ≤ (b : Int) / 2 := Int.ediv_nonneg (by omega) (by omega)
      have e : offN (b + 1) = offN b + min 3 ((b : Int) / 2 + 1) := rfl
      rw [e]; omega
theorem fall_fl {s : Ska} {j : Nat} (hj : j < s.calls.length) : ∀ k, flR s k ≤ flR (callS s j (fallC (s.calls.getD j default))) k
  | 0 => Nat.le_refl _
  | k + 1 => by
    have := fall_fl hj k
    have e : (callS s j (fallC (s.calls.getD j default))).calls.getD k default = if k = j then fallC (s.calls.getD j default) else s.calls.getD k default := cset_at hj
    unfold flR
    rw [e]
    by_cases c : k = j
    · rw [if_pos c, show (fallC (s.calls.getD j default)).fall = true from rfl, if_pos rfl]
      split <;> omega
    · rw [if_neg c]; omega
theorem set_up {s : Ska} {j : Nat} (hj : j < s.calls.length) {c : Cal} (h : UpC (s.calls.getD j default) c) : UpS s (callS s j c) := by
  refine ⟨by unfold callS; simp only [List.length_set], fun i => ?_⟩
  have e : (callS s j c).calls.getD i default = if i = j then c else s.calls.getD i default := cset_at hj
  rw [e]
  split
  · rename_i hi; subst hi; exact h
  · exact UpC.rfl'
theorem UpS.flip {s s' : Ska} (h : UpS s s') (hc : ∀ i, (s.calls.getD i default).marks = (s'.calls.getD i default).marks) : UpS s' s :=
  ⟨h.len.symm, fun i => ⟨(h.call i).place.symm, (h.call i).elem.symm, (h.call i).under.symm, (h.call i).late.symm, (h.call i).num.symm, by rw [hc i]; exact Int.le_refl _⟩⟩
theorem fall_law {r : Rul} {s : Ska} (h : conOk r (one s) = true) {k : Nat} (hk : k < s.calls.length) :
    conOk r (one (callS s k (fallC (s.calls.getD k default)))) = true ∧ (progR r (callS s k (fallC (s.calls.getD k default)))).total ≤ (progR r s).total ∧ (progR r (callS s k (fallC (s.calls.getD k default)))).elements = (progR r s).elements := by
  have hv := con_valid h (s := s) (by simp [one])
  have hok : conOk r (one (callS s k (fallC (s.calls.getD k default)))) = true := call_ok h hk rfl rfl rfl rfl (hv.cat hk).2.2.2.2
  have hu : UpS s (callS s k (fallC (s.calls.getD k default))) := set_up hk ⟨rfl, rfl, rfl, rfl, rfl, Int.le_refl _⟩
  have hl : (callS s k (fallC (s.calls.getD k default))).calls.length = s.calls.length := hu.len
  have h1 := elR_up hv hu s.calls.length (Nat.le_refl _)
  have h2 := elR_up (con_valid hok (s := callS s k (fallC (s.calls.getD k default))) (by simp [one])) (hu.flip fun i => by
    rw [show (callS s k (fallC (s.calls.getD k default))).calls.getD i default = if i = k then fallC (s.calls.getD k default) else s.calls.getD i default from cset_at hk]
    split
    · rename_i hi; subst hi; rfl
    · rfl) s.calls.length (by rw [hl]; exact Nat.le_refl _)
  have h3 : off (flR s s.calls.length) s.over ≤ off (flR (callS s k (fallC (s.calls.getD k default))) s.calls.length) s.over := off_mono (offN_mono (fall_fl hk _)) (Int.le_refl _)
  have h4 : paR r (callS s k (fallC (s.calls.getD k default))) s.parts.length = paR r s s.parts.length := call_pa _
  refine ⟨hok, ?_⟩
  have e : progR r (callS s k (fallC (s.calls.getD k default))) = ⟨elR r (callS s k (fallC (s.calls.getD k default))) s.calls.length, paR r (callS s k (fallC (s.calls.getD k default))) s.parts.length, off (flR (callS s k (fallC (s.calls.getD k default))) s.calls.length) s.over, max 0 (elR r (callS s k (fallC (s.calls.getD k default))) s.calls.length + paR r (callS s k (fallC (s.calls.getD k default))) s.parts.length - off (flR (callS s k (fallC (s.calls.getD k default))) s.calls.length) s.over)⟩ := by
    unfold progR; rw [hl]; rfl
  rw [e]
  unfold progR
  simp only
  rw [h4]
  exact ⟨by omega, by omega⟩
theorem more_law {r : Rul} {s : Ska} (h : conOk r (one s) = true) {k j : Nat} (hk : k < s.calls.length) (hj : j < (s.calls.getD k default).marks.length) :
    conOk r (one (callS s k (moreC j (s.calls.getD k default)))) = true ∧ (progR r s).elements ≤ (progR r (callS s k (moreC j (s.calls.getD k default)))).elements ∧ (progR r s).total ≤ (progR r (callS s k (moreC j (s.calls.getD k default)))).total := by
  have hv := con_valid h (s := s) (by simp [one])
  obtain ⟨_, _, _, _, d5⟩ := hv.cat hk
  have hj0 := d5 ((s.calls.getD k default).marks.getD j default) (by rw [at_lt hj]; exact List.getElem_mem _)
  have hok : conOk r (one (callS s k (moreC j (s.calls.getD k default)))) = true := call_ok h hk rfl rfl rfl (by unfold moreC; simp only [List.length_set]) (fun y hy => by
    unfold moreC at hy
    rcases List.mem_or_eq_of_mem_set hy with hy | rfl
    · exact d5 y hy
    · omega)
  have hu : UpS s (callS s k (moreC j (s.calls.getD k default))) := set_up hk ⟨rfl, rfl, rfl, rfl, cnts_snd, by
    have := cnts_mono hj (v := (s.calls.getD k default).marks.getD j default) (w := min 5 ((s.calls.getD k default).marks.getD j default + 1)) (by omega)
    rw [set_self hj] at this
    exact this⟩
  have hl : (callS s k (moreC j (s.calls.getD k default))).calls.length = s.calls.length := hu.len
  have h1 := elR_up hv hu s.calls.length (Nat.le_refl _)
  have h4 : paR r (callS s k (moreC j (s.calls.getD k default))) s.parts.length = paR r s s.parts.length := call_pa _
  have hf : ∀ m, flR (callS s k (moreC j (s.calls.getD k default))) m = flR s m := fun m => by
    induction m with
    | zero => rfl
    | succ m ih =>
      unfold flR
      rw [ih, show (callS s k (moreC j (s.calls.getD k default))).calls.getD m default = if m = k then moreC j (s.calls.getD k default) else s.calls.getD m default from cset_at hk]
      by_cases c : m = k
      · subst c; rw [if_pos rfl]; rfl
      · rw [if_neg c]
  refine ⟨hok, ?_⟩
  have e : progR r (callS s k (moreC j (s.calls.getD k default))) = ⟨elR r (callS s k (moreC j (s.calls.getD k default))) s.calls.length, paR r s s.parts.length, off (flR s s.calls.length) s.over, max 0 (elR r (callS s k (moreC j (s.calls.getD k default))) s.calls.length + paR r s s.parts.length - off (flR s s.calls.length) s.over)⟩ := by
    unfold progR; rw [hl, hf]; rw [show (callS s k (moreC j (s.calls.getD k default))).parts.length = s.parts.length from rfl, h4]; rfl
  rw [e]
  unfold progR
  simp only
  exact ⟨h1, by omega⟩
theorem better_no {a b : Sco} (h1 : a.total ≤ b.total) (h2 : a.elements ≤ b.elements) : better a b = false := by
  unfold better
  simp only [Bool.or_eq_false_iff, Bool.and_eq_false_iff, decide_eq_false_iff_not]
  exact ⟨by omega, .inr (by omega)⟩
end Go.Proofs.Ytapglfcaghlpfaa
