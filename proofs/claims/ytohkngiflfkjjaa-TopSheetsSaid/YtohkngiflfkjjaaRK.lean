/- A part of the proof that the last text ends: what functions of the program do, told by plain data. -/
import Derived.Test.YtohkngiflfkjjaaRJ
set_option linter.unusedVariables false
set_option linter.unusedSimpArgs false
namespace Go.Proofs.Ytohkngiflfkjjaa
open Go Go.E Go.Maps
set_option maxRecDepth 100000
/-! ### The program's book and the document's state -/
abbrev fki (n : Int) : D := .i n
abbrev fkp (q : Int × Int) : D := .agg [.i q.1, .i q.2]
abbrev fvb (b : Bool) : D := .b b
abbrev PMem := List (Int × Mem)
abbrev PSet := List ((Int × Int) × Bool)
def i64 (a : Int) : Prop := -9223372036854775808 ≤ a ∧ a ≤ 9223372036854775807
structure Rl (PM : PMem) (M1 M2 : PSet) (s : St) : Prop where
  key : ∀ p ∈ PM, p.1 = p.2.person
  perm : (PM.map (·.2)).Perm s.mem
  nd : (s.mem.map (·.person)).Nodup
  m1 : ∀ q b, (q, b) ∈ M1 → b = true
  m1e : ∀ n d, (n, d) ∈ M1.map (·.1) ↔ s.evs.any (sameE d n) = true
  m2 : ∀ q b, (q, b) ∈ M2 → b = true
  m2e : ∀ p d, (p, d) ∈ M2.map (·.1) ↔ plB s.evs p d = true
  rg : ∀ p ∈ PM, i64 p.1
  rg1 : ∀ p ∈ M1, i64 p.1.1 ∧ i64 p.1.2
  rg2 : ∀ p ∈ M2, i64 p.1.1 ∧ i64 p.1.2
theorem Rl.zero : Rl [] [] [] ⟨[], []⟩ := ⟨by simp, by simp, by simp, by simp, by simp, by simp, by simp [plB], by simp, by simp, by simp⟩
theorem nd_eq {l : List Mem} (h : (l.map (·.person)).Nodup) {a b : Mem} (ha : a ∈ l) (hb : b ∈ l) (he : a.person = b.person) : a = b := by
  induction l with
  | nil => cases ha
  | cons x l ih =>
    simp only [List.map_cons, List.nodup_cons] at h
    rcases List.mem_cons.1 ha with e1 | ha1
    · rcases List.mem_cons.1 hb with e2 | hb1
      · rw [e1, e2]
      · exact absurd (List.mem_map.2 ⟨b, hb1, by rw [← he, e1]⟩) h.1
    · rcases List.mem_cons.1 hb with e2 | hb1
      · exact absurd (List.mem_map.2 ⟨a, ha1, by rw [he, e2]⟩) h.1
      · exact ih h.2 ha1 hb1
theorem Rl.pnd {PM : PMem} {M1 M2 : PSet} {s : St} (h : Rl PM M1 M2 s) : (PM.map (·.1)).Nodup := by
  have e : PM.map (·.1) = (PM.map (·.2)).map (·.person) := by
    rw [List.map_map]
    exact List.map_congr_left fun p hp => h.key p hp
  rw [e]
  exact ((h.perm.map _).nodup_iff).2 h.nd
theorem pnd_ix {PM : PMem} (h : (PM.map (·.1)).Nodup) {i j : Nat} {a b : Int × Mem} (ha : PM[i]? = some a) (hb : PM[j]? = some b) (he : a.1 = b.1) : i = j := by
  obtain ⟨hi, _⟩ := List.getElem?_eq_some_iff.1 ha
  refine (List.getElem?_inj (l := PM.map (·.1)) (by simpa using hi) h).1 ?_
  rw [List.getElem?_map, List.getElem?_map, ha, hb]
  simp [he]
/-- Who is there. -/
theorem Rl.look {PM : PMem} {M1 M2 : PSet} {s : St} (h : Rl PM M1 M2 s) (p : Int) : (fnd s.mem p = -1 ∧ ∀ (i : Nat) (z : Int × Mem), PM[i]? = some z → z.1 ≠ p) ∨
    ∃ (i j : Nat) (m : Mem), PM[i]? = some (p, m) ∧ m.person = p ∧ m ∈ s.mem ∧ j < s.mem.length ∧ fnd s.mem p = (j : Int) ∧ s.mem.getD j default = m ∧ ∀ (i' : Nat) (z : Int × Mem), PM[i']? = some z → z.1 = p → i' = i := by
  rcases fnd_cases s.mem p with ⟨h1, h2⟩ | ⟨j, hj, h1, h2⟩
  · refine .inl ⟨h1, fun i z hz hk => ?_⟩
    have hm := List.mem_of_getElem? hz
    have : z.2 ∈ s.mem := h.perm.mem_iff.1 (List.mem_map.2 ⟨z, hm, rfl⟩)
    exact h2 _ this (by rw [← h.key z hm, hk])
  · have hmem : s.mem.getD j default ∈ s.mem := by rw [at_lt hj]; exact List.getElem_mem _
    obtain ⟨z, hz, hz2⟩ := List.mem_map.1 (h.perm.mem_iff.2 hmem)
    obtain ⟨i, hi⟩ := List.getElem?_of_mem hz
    have hk : z.1 = p := by rw [h.key z hz, hz2, h2]
    refine .inr ⟨i, j, z.2, by rw [hi, ← hk], by rw [hz2, h2], by rw [hz2]; exact hmem, hj, h1, hz2.symm, fun i' z' hz' hk' => pnd_ix h.pnd hz' hi (by rw [hk', hk])⟩
theorem perm_set {α : Type} {l l' : List α} {i j : Nat} {a : α} (b : α) (h : l.Perm l') (h1 : l[i]? = some a) (h2 : l'[j]? = some a) : (l.set i b).Perm (l'.set j b) := by
  have key : ∀ (l : List α) (i : Nat) (a : α), l[i]? = some a → ∀ b, (l.set i b).Perm (b :: (l.take i ++ l.drop (i + 1))) := fun l i a h1 b => by
    obtain ⟨hi, _⟩ := List.getElem?_eq_some_iff.1 h1
    rw [List.set_eq_take_append_cons_drop, if_pos hi]
    exact List.perm_middle
  have self : ∀ (l : List α) (i : Nat) (a : α), l[i]? = some a → l.set i a = l := fun l i a h1 => by
    obtain ⟨hi, e⟩ := List.getElem?_eq_some_iff.1 h1
    rw [← e, List.set_getElem_self]
  have p1 := key l i a h1 a
  rw [self l i a h1] at p1
  have p2 := key l' j a h2 a
  rw [self l' j a h2] at p2
  have p3 := (List.perm_cons a).1 (p1.symm.trans (h.trans p2))
  exact (key l i a h1 b).trans ((List.perm_cons b).2 p3 |>.trans (key l' j a h2 b).symm)
theorem any_snoc {l : List Ev} {x : Ev} {q : Ev → Bool} (h : q x = false) : (l ++ [x]).any q = l.any q := by simp [h]
theorem Rl.set {PM : PMem} {M1 M2 : PSet} {s : St} (h : Rl PM M1 M2 s) {i j : Nat} {p : Int} {m m' : Mem} {x : Ev} (h1 : PM[i]? = some (p, m)) (h2 : j < s.mem.length) (h3 : s.mem.getD j default = m) (hp : m.person = p) (hp' : m'.person = p) (hk : x.kind ≠ 6) :
    Rl (PM.set i (p, m')) M1 M2 ⟨s.mem.set j m', s.evs ++ [x]⟩ := by
  have hj : s.mem[j]? = some m := by rw [← h3, at_lt h2]; exact List.getElem?_eq_getElem h2
  refine ⟨fun q hq => ?_, ?_, ?_, h.m1, fun n d => ?_, h.m2, fun q d => ?_, fun q hq => ?_, h.rg1, h.rg2⟩
  · rcases List.mem_or_eq_of_mem_set hq with hq | rfl
    · exact h.key q hq
    · exact hp'.symm
  · rw [List.map_set]
    exact perm_set _ h.perm (by rw [List.getElem?_map, h1]; rfl) hj
  · simp only [List.map_set]
    have : (s.mem.map (·.person)).set j m'.person = s.mem.map (·.person) := by
      rw [hp', ← hp, ← h3]
      apply List.ext_getElem?
      intro k
      rw [List.getElem?_set]
      split
      · rename_i e; subst e
        simp [h2, List.getElem?_eq_getElem h2]
      · rfl
    rw [this]; exact h.nd
  · rw [h.m1e, any_snoc (by unfold sameE; rw [decide_eq_false hk]; rfl)]
  · rw [h.m2e]; unfold plB; rw [any_snoc (by unfold hitE; rw [decide_eq_false hk]; rfl)]
  · rcases List.mem_or_eq_of_mem_set hq with hq | rfl
    · exact h.rg q hq
    · exact h.rg (p, m) (List.mem_of_getElem? h1)
theorem perm_ins {l : List Mem} {m : Mem} : (insM l m).Perm (m :: l) := by
  unfold insM
  exact List.perm_middle.trans ((List.perm_cons m).2 (by rw [List.takeWhile_append_dropWhile]))
theorem Rl.join {PM : PMem} {M1 M2 : PSet} {s : St} (h : Rl PM M1 M2 s) {m : Mem} {x : Ev} (hn : fnd s.mem m.person = -1) (hk : x.kind ≠ 6) (hr : i64 m.person) : Rl (PM ++ [(m.person, m)]) M1 M2 ⟨insM s.mem m, s.evs ++ [x]⟩ := by
  refine ⟨fun q hq => ?_, ?_, ?_, h.m1, fun n d => ?_, h.m2, fun q d => ?_, fun q hq => ?_, h.rg1, h.rg2⟩
  · rcases List.mem_append.1 hq with hq | hq
    · exact h.key q hq
    · simp at hq; rw [hq]
  · rw [List.map_append]
    exact (List.perm_append_comm.trans ((List.perm_cons m).2 h.perm)).trans perm_ins.symm
  · rw [(perm_ins.map _).nodup_iff, List.map_cons, List.nodup_cons]
    refine ⟨fun hm => ?_, h.nd⟩
    obtain ⟨a, ha, he⟩ := List.mem_map.1 hm
    rcases fnd_cases s.mem m.person with ⟨_, h2⟩ | ⟨j, _, h2, _⟩
    · exact h2 a ha he
    · omega
  · rw [h.m1e, any_snoc (by unfold sameE; rw [decide_eq_false hk]; rfl)]
  · rw [h.m2e]; unfold plB; rw [any_snoc (by unfold hitE; rw [decide_eq_false hk]; rfl)]
  · rcases List.mem_append.1 hq with hq | hq
    · exact h.rg q hq
    · simp at hq; rw [hq]; exact hr
theorem gam_person {n : Int} {m : Mem} : (gam n m).person = m.person := by unfold gam; split <;> rfl
theorem Rl.play {PM : PMem} {M1 M2 : PSet} {s : St} (h : Rl PM M1 M2 s) {x : Ev} (hk : x.kind = 6) (r1 : i64 x.n) (r2 : i64 x.day) (r3 : ∀ p ∈ x.sheet, i64 p) : Rl (PM.map fun p => (p.1, gam x.n p.2)) (M1 ++ [((x.n, x.day), true)]) (M2 ++ x.sheet.map fun p => ((p, x.day), true)) ⟨s.mem.map (gam x.n), s.evs ++ [x]⟩ := by
  refine ⟨fun q hq => ?_, ?_, ?_, fun q b hq => ?_, fun n d => ?_, fun q b hq => ?_, fun p d => ?_, fun q hq => ?_, fun q hq => ?_, fun q hq => ?_⟩
  · obtain ⟨a, ha, rfl⟩ := List.mem_map.1 hq
    simp only [gam_person]; exact h.key a ha
  · have := h.perm.map (gam x.n)
    rw [List.map_map] at this ⊢
    exact this
  · rw [List.map_map]
    have : ((·.person) ∘ gam x.n : Mem → Int) = (·.person) := funext fun m => gam_person
    rw [this]; exact h.nd
  · rcases List.mem_append.1 hq with hq | hq
    · exact h.m1 q b hq
    · simp at hq; exact hq.2
  · rw [List.map_append, List.mem_append, h.m1e, List.any_append, Bool.or_eq_true]
    refine or_congr Iff.rfl ?_
    simp only [List.any_cons, List.any_nil, Bool.or_false, List.map_cons, List.map_nil, List.mem_singleton, Prod.mk.injEq, sameE, hk, decide_true, Bool.true_and, Bool.and_eq_true, decide_eq_true_eq]
    constructor <;> rintro ⟨rfl, rfl⟩ <;> exact ⟨rfl, rfl⟩
  · rcases List.mem_append.1 hq with hq | hq
    · exact h.m2 q b hq
    · obtain ⟨a, _, e⟩ := List.mem_map.1 hq; cases e; rfl
  · rw [List.map_append, List.mem_append, h.m2e, List.map_map]
    unfold plB
    rw [List.any_append, Bool.or_eq_true]
    refine or_congr Iff.rfl ?_
    simp only [List.any_cons, List.any_nil, Bool.or_false, hitE, hk, decide_true, Bool.true_and, Bool.and_eq_true, decide_eq_true_eq, List.mem_map, Function.comp, Prod.mk.injEq, List.any_eq_true]
    constructor
    · rintro ⟨a, ha, rfl, rfl⟩; exact ⟨rfl, a, ha, rfl⟩
    · rintro ⟨rfl, a, ha, rfl⟩; exact ⟨a, ha, rfl, rfl⟩
  · obtain ⟨a, ha, rfl⟩ := List.mem_map.1 hq
    exact h.rg a ha
  · rcases List.mem_append.1 hq with hq | hq
    · exact h.rg1 q hq
    · simp at hq; rw [hq]; exact ⟨r1, r2⟩
  · rcases List.mem_append.1 hq with hq | hq
    · exact h.rg2 q hq
    · obtain ⟨a, ha, rfl⟩ := List.mem_map.1 hq; exact ⟨r3 a ha, r2⟩
end Go.Proofs.Ytohkngiflfkjjaa
