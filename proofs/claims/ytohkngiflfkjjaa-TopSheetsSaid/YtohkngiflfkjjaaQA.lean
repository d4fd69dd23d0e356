/- A part of the proof that the last text ends: what functions of the program do, told by plain data. -/
import Derived.Test.YtohkngiflfkjjaaRU
set_option linter.unusedVariables false
set_option linter.unusedSimpArgs false
namespace Go.Proofs.Ytohkngiflfkjjaa
open Go Go.E
set_option maxRecDepth 100000
/-! ### Events one by one: prefix states, what is accepted, a member's steps -/
def stJ (l : List Ev) : Nat → St
  | 0 => ⟨[], []⟩
  | j + 1 => (doR (stJ l j) (l.getD j default)).1
def errJ (l : List Ev) (j : Nat) : Int := if evOk (l.getD j default) = true then (if 0 < j ∧ (l.getD j default).day < (l.getD (j - 1) default).day then 7 else (doR (stJ l j) (l.getD j default)).2) else 1
def Acc (l : List Ev) (j : Nat) : Prop := evOk (l.getD j default) = true ∧ (0 < j → (l.getD (j - 1) default).day ≤ (l.getD j default).day) ∧ (doR (stJ l j) (l.getD j default)).2 = 0
theorem acc_err {l : List Ev} {j : Nat} : Acc l j ↔ errJ l j = 0 := by
  unfold Acc errJ
  by_cases h1 : evOk (l.getD j default) = true
  · rw [if_pos h1]
    by_cases h2 : 0 < j ∧ (l.getD j default).day < (l.getD (j - 1) default).day
    · rw [if_pos h2]
      exact ⟨fun h => by have := h.2.1 h2.1; omega, fun h => by omega⟩
    · rw [if_neg h2]
      exact ⟨fun h => h.2.2, fun h => ⟨h1, fun h0 => by omega, h⟩⟩
  · rw [if_neg h1]
    exact ⟨fun h => absurd h.1 h1, fun h => by omega⟩
theorem runN_spec {l : List Ev} : ∀ (k i : Nat), i + k = l.length → (∀ j, j < i → Acc l j) → ∃ n, runN l k i (stJ l i) = (stJ l n, n, if n = l.length then 0 else errJ l n) ∧ n ≤ l.length ∧ (∀ j, j < n → Acc l j) ∧ (n < l.length → ¬ Acc l n)
  | 0, i, h, ha => ⟨i, by unfold runN; rw [if_pos (by omega)], by omega, ha, fun h' => by omega⟩
  | k + 1, i, h, ha => by
    have hlt : i < l.length := by omega
    have hne : ¬ i = l.length := by omega
    by_cases c : Acc l i
    · obtain ⟨n, h1, h2⟩ := runN_spec (l := l) k (i + 1) (by omega) (fun j hj => by
        rcases Nat.lt_succ_iff_lt_or_eq.1 hj with h' | rfl
        · exact ha j h'
        · exact c)
      refine ⟨n, ?_, h2⟩
      rw [← h1, runN, if_pos c.1, if_neg (fun hc => by have := c.2.1 hc.1; omega), if_pos c.2.2]
      rfl
    · refine ⟨i, ?_, by omega, ha, fun _ => c⟩
      rw [if_neg hne]
      unfold Acc at c
      unfold runN errJ
      by_cases h1 : evOk (l.getD i default) = true
      · rw [if_pos h1, if_pos h1]
        by_cases h2 : 0 < i ∧ (l.getD i default).day < (l.getD (i - 1) default).day
        · rw [if_pos h2, if_pos h2]
        · rw [if_neg h2, if_neg h2, if_neg]
          exact fun h3 => c ⟨h1, fun h0 => by omega, h3⟩
      · rw [if_neg h1, if_neg h1]
theorem run_spec {l : List Ev} (hl : l.length ≤ 256) : ∃ n, runR l = (stJ l n, n, if n = l.length then 0 else errJ l n) ∧ n ≤ l.length ∧ (∀ j, j < n → Acc l j) ∧ (n < l.length → ¬ Acc l n) := by
  unfold runR
  rw [if_neg (by omega)]
  exact runN_spec (l := l) l.length 0 (by omega) (fun j hj => by omega)
theorem run_len {l : List Ev} (h : (runR l).2.2 = 0) : l.length ≤ 256 := by
  refine Nat.le_of_not_lt fun hc => ?_
  unfold runR at h
  rw [if_pos hc] at h
  simp at h
theorem run_ok {l : List Ev} (h : (runR l).2.2 = 0) : runR l = (stJ l l.length, l.length, 0) ∧ l.length ≤ 256 ∧ ∀ j, j < l.length → Acc l j := by
  have hl := run_len h
  obtain ⟨n, h1, h2, h3, h4⟩ := run_spec hl
  by_cases c : n = l.length
  · subst c
    rw [if_pos rfl] at h1
    exact ⟨h1, hl, h3⟩
  · rw [h1, if_neg c] at h
    exact absurd (acc_err.2 h) (h4 (by omega))
theorem run_of {l : List Ev} (hl : l.length ≤ 256) {n : Nat} (hn : n ≤ l.length) (ha : ∀ j, j < n → Acc l j) (h0 : n < l.length → ¬ Acc l n) : runR l = (stJ l n, n, if n = l.length then 0 else errJ l n) := by
  obtain ⟨m, h1, h2, h3, h4⟩ := run_spec hl
  have : m = n := by
    rcases Nat.lt_trichotomy m n with h | h | h
    · exact absurd (ha m h) (h4 (by omega))
    · exact h
    · exact absurd (h3 n h) (h0 (by omega))
  rw [h1, this]
theorem run_all {l : List Ev} (hl : l.length ≤ 256) (ha : ∀ j, j < l.length → Acc l j) : runR l = (stJ l l.length, l.length, 0) := by
  rw [run_of hl (Nat.le_refl _) ha (fun h => by omega), if_pos rfl]
theorem stJ_srt {l : List Ev} : ∀ {j : Nat}, (∀ i, i < j → Acc l i) → Srt (stJ l j).mem
  | 0, _ => List.Pairwise.nil
  | j + 1, h => doR_srt (stJ_srt fun i hi => h i (by omega)) (h j (by omega)).2.2
theorem doR_evs {s : St} {x : Ev} (h0 : (doR s x).2 = 0) : (doR s x).1.evs = s.evs ++ [x] := by
  have hf : ∀ r, (finR s x r).2 = 0 → (finR s x r).1.evs = s.evs ++ [x] := fun r h => by
    unfold finR at h ⊢
    split
    · rfl
    · rename_i hz; rw [if_neg hz] at h; exact absurd h hz
  unfold doR at h0 ⊢
  split
  · rename_i k; rw [if_pos k] at h0; exact hf _ h0
  rename_i k
  rw [if_neg k] at h0
  split
  · rename_i k6; rw [if_pos k6] at h0; exact hf _ h0
  rename_i k6
  rw [if_neg k6] at h0
  split
  · rename_i c; rw [if_pos c] at h0; simp at h0
  · rename_i c; rw [if_neg c] at h0; exact hf _ h0
theorem stJ_evs {l : List Ev} : ∀ {j : Nat}, j ≤ l.length → (∀ i, i < j → Acc l i) → (stJ l j).evs = l.take j
  | 0, _, _ => by simp [stJ]
  | j + 1, hj, h => by
    show (doR (stJ l j) (l.getD j default)).1.evs = _
    rw [doR_evs (h j (by omega)).2.2, stJ_evs (by omega) fun i hi => h i (by omega), take_succ (by omega)]
/-! ### A member, by the person -/
def mo (s : St) (p : Int) : Option Mem := if fnd s.mem p < 0 then none else some (s.mem.getD (fnd s.mem p).toNat default)
theorem srt_nd {l : List Mem} (h : Srt l) : (l.map (·.person)).Nodup := by
  unfold Srt at h
  rw [List.nodup_iff_pairwise_ne, List.pairwise_map]
  exact h.imp fun h => by omega
theorem mo_none {s : St} {p : Int} : mo s p = none ↔ ∀ m ∈ s.mem, m.person ≠ p := by
  unfold mo
  rcases fnd_cases s.mem p with ⟨h1, h2⟩ | ⟨j, hj, h1, h2⟩
  · rw [if_pos (by omega)]; exact ⟨fun _ => h2, fun _ => rfl⟩
  · rw [if_neg (by omega)]
    exact ⟨fun h => (by cases h), fun h => absurd h2 (h _ (by rw [at_lt hj]; exact List.getElem_mem _))⟩
theorem mo_some {s : St} {p : Int} {m : Mem} (hs : Srt s.mem) : mo s p = some m ↔ m ∈ s.mem ∧ m.person = p := by
  unfold mo
  rcases fnd_cases s.mem p with ⟨h1, h2⟩ | ⟨j, hj, h1, h2⟩
  · rw [if_pos (by omega)]
    exact ⟨fun h => (by cases h), fun h => absurd h.2 (h2 _ h.1)⟩
  · have hm : s.mem.getD j default ∈ s.mem := by rw [at_lt hj]; exact List.getElem_mem _
    rw [if_neg (by omega), h1, Int.toNat_natCast, Option.some.injEq]
    constructor
    · rintro rfl; exact ⟨hm, h2⟩
    · rintro ⟨h3, h4⟩; exact nd_eq (srt_nd hs) hm h3 (by rw [h2, h4])
theorem mo_fnd {s : St} {p : Int} {m : Mem} (h : mo s p = some m) : ∃ j : Nat, j < s.mem.length ∧ fnd s.mem p = (j : Int) ∧ s.mem.getD j default = m ∧ m.person = p := by
  unfold mo at h
  rcases fnd_cases s.mem p with ⟨h1, h2⟩ | ⟨j, hj, h1, h2⟩
  · rw [if_pos (by omega)] at h; cases h
  · rw [if_neg (by omega), h1, Int.toNat_natCast, Option.some.injEq] at h
    exact ⟨j, hj, h1, h, by rw [← h]; exact h2⟩
theorem mo_nf {s : St} {p : Int} (h : mo s p = none) : fnd s.mem p = -1 := by
  unfold mo at h
  rcases fnd_cases s.mem p with ⟨h1, _⟩ | ⟨j, _, h1, _⟩
  · exact h1
  · rw [if_neg (by omega)] at h; cases h
/-- What is accepted. -/
def AccD (s : St) (x : Ev) : Prop :=
  if x.kind = 0 then mo s x.person = none ∧ clubN s.mem x.n s.mem.length < 25
  else if x.kind = 6 then s.evs.any (sameE x.day x.n) = false ∧ ∀ q ∈ x.sheet, ∃ m, mo s q = some m ∧ m.club = x.n ∧ why s.evs m x.day = []
  else ∃ m, mo s x.person = some m ∧ (oneR m x).2 = 0
theorem chk_zero {s : St} {n d : Int} {sh : List Int} : ∀ {k i : Nat}, i + k = sh.length → (chkN s.mem s.evs n d sh k i = 0 ↔ ∀ j, i ≤ j → j < sh.length → ∃ m, mo s (sh.getD j default) = some m ∧ m.club = n ∧ why s.evs m d = [])
  | 0, i, h => ⟨fun _ j h1 h2 => by omega, fun _ => rfl⟩
  | k + 1, i, h => by
    unfold chkN
    have hstep : (∀ j, i ≤ j → j < sh.length → ∃ m, mo s (sh.getD j default) = some m ∧ m.club = n ∧ why s.evs m d = []) ↔ (∃ m, mo s (sh.getD i default) = some m ∧ m.club = n ∧ why s.evs m d = []) ∧ ∀ j, i + 1 ≤ j → j < sh.length → ∃ m, mo s (sh.getD j default) = some m ∧ m.club = n ∧ why s.evs m d = [] :=
      ⟨fun h' => ⟨h' i (Nat.le_refl _) (by omega), fun j h1 h2 => h' j (by omega) h2⟩, fun h' j h1 h2 => by
        rcases Nat.eq_or_lt_of_le h1 with e | e
        · subst e; exact h'.1
        · exact h'.2 j e h2⟩
    rw [hstep]
    cases hm : mo s (sh.getD i default) with
    | none =>
      rw [if_pos (by rw [mo_nf hm]; omega)]
      exact ⟨fun h => by omega, fun h => by obtain ⟨⟨m, h1, _⟩, _⟩ := h; cases h1⟩
    | some m =>
      obtain ⟨j, hj, h1, h2, h3⟩ := mo_fnd hm
      rw [if_neg (by omega), h1, Int.toNat_natCast, h2]
      by_cases c1 : m.club = n
      · rw [if_neg (by simpa using c1)]
        by_cases c2 : why s.evs m d = []
        · rw [if_pos c2, chk_zero (by omega)]
          exact ⟨fun h => ⟨⟨m, rfl, c1, c2⟩, h⟩, fun h => h.2⟩
        · rw [if_neg c2]
          exact ⟨fun h => by omega, fun h => by obtain ⟨⟨m', h1, _, h3⟩, _⟩ := h; cases h1; exact absurd h3 c2⟩
      · rw [if_pos c1]
        exact ⟨fun h => by omega, fun h => by obtain ⟨⟨m', h1, h3, _⟩, _⟩ := h; cases h1; exact absurd h3 c1⟩
theorem getD_mem {l : List Int} {P : Int → Prop} : (∀ j, 0 ≤ j → j < l.length → P (l.getD j default)) ↔ ∀ q ∈ l, P q := by
  constructor
  · intro h q hq
    obtain ⟨j, hj, rfl⟩ := List.getElem_of_mem hq
    have := h j (Nat.zero_le _) hj
    rwa [at_lt hj] at this
  · intro h j _ hj
    rw [at_lt hj]; exact h _ (List.getElem_mem _)
theorem fin_zero {s : St} {x : Ev} {r : List Mem × Int} : (finR s x r).2 = 0 ↔ r.2 = 0 := by
  unfold finR
  split
  · rename_i h; exact ⟨fun _ => h, fun _ => rfl⟩
  · exact Iff.rfl
theorem doR_zero {s : St} {x : Ev} : (doR s x).2 = 0 ↔ AccD s x := by
  unfold doR AccD
  by_cases k0 : x.kind = 0
  · rw [if_pos k0, if_pos k0, fin_zero]
    unfold joinR
    cases hm : mo s x.person with
    | none =>
      rw [if_neg (by rw [mo_nf hm]; omega)]
      by_cases c : 25 ≤ clubN s.mem x.n s.mem.length
      · rw [if_pos c]; exact ⟨fun h => by simp at h, fun h => by omega⟩
      · rw [if_neg c]; exact ⟨fun _ => ⟨rfl, by omega⟩, fun _ => rfl⟩
    | some m =>
      obtain ⟨j, _, h1, _⟩ := mo_fnd hm
      rw [if_pos (by omega)]
      exact ⟨fun h => by simp at h, fun h => by cases h.1⟩
  rw [if_neg k0, if_neg k0]
  by_cases k6 : x.kind = 6
  · rw [if_pos k6, if_pos k6, fin_zero]
    unfold matchR
    by_cases c : s.evs.any (sameE x.day x.n) = true
    · rw [if_pos c]; exact ⟨fun h => by simp at h, fun h => by rw [c] at h; cases h.1⟩
    · rw [if_neg c]
      have hc := chk_zero (s := s) (n := x.n) (d := x.day) (sh := x.sheet) (k := x.sheet.length) (i := 0) (by omega)
      rw [getD_mem (P := fun q => ∃ m, mo s q = some m ∧ m.club = x.n ∧ why s.evs m x.day = [])] at hc
      have hp := chkN_pos (l := s.mem) (evs := s.evs) (n := x.n) (d := x.day) (sh := x.sheet) (k := x.sheet.length) (i := 0)
      by_cases c2 : 0 < chkN s.mem s.evs x.n x.day x.sheet x.sheet.length 0
      · rw [if_pos c2]
        exact ⟨fun h => by simp only at h; omega, fun h => by have := hc.2 h.2; omega⟩
      · rw [if_neg c2]
        exact ⟨fun _ => ⟨by simpa using c, hc.1 (by omega)⟩, fun _ => rfl⟩
  rw [if_neg k6, if_neg k6]
  cases hm : mo s x.person with
  | none =>
    rw [if_pos (by rw [mo_nf hm]; omega)]
    exact ⟨fun h => by simp at h, fun h => by obtain ⟨m, h1, _⟩ := h; cases h1⟩
  | some m =>
    obtain ⟨j, _, h1, h2, _⟩ := mo_fnd hm
    rw [if_neg (by omega), fin_zero, h1, Int.toNat_natCast, h2]
    exact ⟨fun h => ⟨m, rfl, h⟩, fun h => by obtain ⟨m', e, h⟩ := h; cases e; exact h⟩
/-- A member behind an event. -/
def stepM (x : Ev) (p : Int) (o : Option Mem) : Option Mem := if x.kind = 6 then o.map (gam x.n) else if x.person = p then (if x.kind = 0 then some ⟨p, x.n, 0, 0, 0⟩ else o.map fun m => (oneR m x).1) else o
theorem doR_mem0 {s : St} {x : Ev} (h0 : (doR s x).2 = 0) (k : x.kind = 0) : (doR s x).1.mem = insM s.mem ⟨x.person, x.n, 0, 0, 0⟩ := by
  have ha := doR_zero.1 h0
  unfold AccD at ha
  rw [if_pos k] at ha
  have hj : joinR s x = (insM s.mem ⟨x.person, x.n, 0, 0, 0⟩, 0) := by
    unfold joinR
    rw [if_neg (by rw [mo_nf ha.1]; omega), if_neg (by omega)]
  unfold doR finR
  rw [if_pos k, hj, if_pos rfl]
theorem doR_mem6 {s : St} {x : Ev} (h0 : (doR s x).2 = 0) (k : x.kind = 6) : (doR s x).1.mem = s.mem.map (gam x.n) := by
  have ha := doR_zero.1 h0
  unfold AccD at ha
  rw [if_neg (by omega), if_pos k] at ha
  have hc := chk_zero (s := s) (n := x.n) (d := x.day) (sh := x.sheet) (k := x.sheet.length) (i := 0) (by omega)
  rw [getD_mem (P := fun q => ∃ m, mo s q = some m ∧ m.club = x.n ∧ why s.evs m x.day = [])] at hc
  have hm : matchR s x = (s.mem.map (gam x.n), 0) := by
    unfold matchR
    rw [if_neg (by rw [ha.1]; simp), hc.2 ha.2, if_neg (by omega)]
  unfold doR finR
  rw [if_neg (by omega), if_pos k, hm, if_pos rfl]
theorem doR_mem1 {s : St} {x : Ev} (h0 : (doR s x).2 = 0) (k0 : x.kind ≠ 0) (k6 : x.kind ≠ 6) : ∃ (j : Nat) (m : Mem), j < s.mem.length ∧ s.mem.getD j default = m ∧ m.person = x.person ∧ mo s x.person = some m ∧ (oneR m x).2 = 0 ∧ (doR s x).1.mem = s.mem.set j (oneR m x).1 := by
  have ha := doR_zero.1 h0
  unfold AccD at ha
  rw [if_neg k0, if_neg k6] at ha
  obtain ⟨m, hm, h1⟩ := ha
  obtain ⟨j, hj, h2, h3, h4⟩ := mo_fnd hm
  refine ⟨j, m, hj, h3, h4, hm, h1, ?_⟩
  unfold doR finR
  rw [if_neg k0, if_neg k6, if_neg (by omega), h2, Int.toNat_natCast, h3, if_pos h1]
theorem mo_step {s : St} {x : Ev} (hs : Srt s.mem) (h0 : (doR s x).2 = 0) (p : Int) : mo (doR s x).1 p = stepM x p (mo s p) := by
  have hs' := doR_srt hs h0
  have ha := doR_zero.1 h0
  unfold AccD at ha
  unfold stepM
  -- both sides by what they hold
  have ext : ∀ o : Option Mem, (∀ m, mo (doR s x).1 p = some m ↔ o = some m) → mo (doR s x).1 p = o := fun o h => by
    cases ho : o with
    | some m => rw [h m]; exact ho
    | none =>
      cases hx : mo (doR s x).1 p with
      | none => rfl
      | some m => rw [h m, ho] at hx; cases hx
  by_cases k6 : x.kind = 6
  · rw [if_pos k6]
    refine ext _ fun m => ?_
    rw [mo_some hs', doR_mem6 h0 k6, List.mem_map]
    constructor
    · rintro ⟨⟨a, h1, rfl⟩, h2⟩
      rw [gam_person] at h2
      rw [(mo_some hs).2 ⟨h1, h2⟩]; rfl
    · intro h
      obtain ⟨a, h1, rfl⟩ := Option.map_eq_some_iff.1 h
      obtain ⟨h2, h3⟩ := (mo_some hs).1 h1
      exact ⟨⟨a, h2, rfl⟩, by rw [gam_person]; exact h3⟩
  rw [if_neg k6]
  by_cases k0 : x.kind = 0
  · rw [if_pos k0] at ha
    have hn := mo_none.1 ha.1
    by_cases hp : x.person = p
    · rw [if_pos hp, if_pos k0]
      refine ext _ fun m => ?_
      rw [mo_some hs', doR_mem0 h0 k0, mem_insM, Option.some.injEq]
      constructor
      · rintro ⟨rfl | h1, h2⟩
        · rw [hp]
        · exact absurd (h2.trans hp.symm) (hn m h1)
      · rintro rfl; exact ⟨.inl (by rw [hp]), rfl⟩
    · rw [if_neg hp]
      refine ext _ fun m => ?_
      rw [mo_some hs', mo_some hs, doR_mem0 h0 k0, mem_insM]
      constructor
      · rintro ⟨rfl | h1, h2⟩
        · exact absurd h2 hp
        · exact ⟨h1, h2⟩
      · rintro ⟨h1, h2⟩; exact ⟨.inr h1, h2⟩
  obtain ⟨j, m0, hj, g1, g2, g3, g4, g5⟩ := doR_mem1 h0 k0 k6
  have hmem0 : m0 ∈ s.mem := by rw [← g1, at_lt hj]; exact List.getElem_mem _
  have hset : ∀ m, m ∈ s.mem.set j (oneR m0 x).1 ↔ m = (oneR m0 x).1 ∨ (m ∈ s.mem ∧ m.person ≠ x.person) := fun m => by
    constructor
    · intro h
      obtain ⟨i, hi, rfl⟩ := List.getElem_of_mem h
      rw [List.getElem_set]
      split
      · exact .inl rfl
      · rename_i hne
        rw [List.length_set] at hi
        refine .inr ⟨List.getElem_mem _, fun he => ?_⟩
        have e1 : s.mem[j]? = some m0 := by rw [List.getElem?_eq_getElem hj, ← g1, at_lt hj]
        have hnd := srt_nd hs
        have := (List.getElem?_inj (l := s.mem.map (·.person)) (i := i) (j := j) (by simpa using hi) hnd).1 (by rw [List.getElem?_map, List.getElem?_map, e1, List.getElem?_eq_getElem hi]; simp [he, g2])
        omega
    · rintro (rfl | ⟨h1, h2⟩)
      · exact List.mem_iff_getElem.2 ⟨j, by simpa using hj, by simp⟩
      · obtain ⟨i, hi, rfl⟩ := List.getElem_of_mem h1
        refine List.mem_iff_getElem.2 ⟨i, by simpa using hi, ?_⟩
        rw [List.getElem_set, if_neg]
        rintro rfl
        rw [at_lt hi] at g1
        exact h2 (by rw [g1, g2])
  by_cases hp : x.person = p
  · rw [if_pos hp, if_neg k0]
    have hmo : mo s p = some m0 := by rw [← hp]; exact g3
    rw [hmo]
    refine ext _ fun m => ?_
    rw [mo_some hs', g5, hset, Option.map_some, Option.some.injEq]
    constructor
    · rintro ⟨rfl | ⟨_, h1⟩, h2⟩
      · rfl
      · exact absurd (h2.trans hp.symm) h1
    · rintro rfl; exact ⟨.inl rfl, by rw [one_person, g2, hp]⟩
  · rw [if_neg hp]
    refine ext _ fun m => ?_
    rw [mo_some hs', mo_some hs, g5, hset]
    constructor
    · rintro ⟨rfl | ⟨h1, _⟩, h2⟩
      · rw [one_person, g2] at h2; exact absurd h2 hp
      · exact ⟨h1, h2⟩
    · rintro ⟨h1, h2⟩; exact ⟨.inr ⟨h1, fun h => hp (h.symm.trans h2)⟩, h2⟩
end Go.Proofs.Ytohkngiflfkjjaa
