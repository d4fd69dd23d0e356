/- A part of the proof that the last text ends: what functions of the program do, told by plain data. -/
import Derived.Test.YtohkngiflfkjjaaRH
set_option linter.unusedVariables false
set_option linter.unusedSimpArgs false
namespace Go.Proofs.Ytohkngiflfkjjaa
open Go Go.E
set_option maxRecDepth 100000
set_option maxHeartbeats 16000000
/-! ### The document: all events -/
def MOk (b : Int) (m : Mem) : Prop := (0 ≤ m.ban ∧ m.ban ≤ b) ∧ (0 ≤ m.stage ∧ m.stage ≤ 6) ∧ 0 ≤ m.since ∧ m.since ≤ 16384
def InvR (i : Nat) (s : St) : Prop := (s.mem.length ≤ i ∧ s.evs.length = i) ∧ (∀ m ∈ s.mem, MOk (20 * (i : Int)) m) ∧ ∀ y ∈ s.evs, y.sheet.length ≤ 100000
theorem InvR.ms {i : Nat} {s : St} (h : InvR i s) (hi : i ≤ 1000) : MemsOk s.mem := by
  obtain ⟨⟨h1, h2⟩, h3, h4⟩ := h
  refine ⟨by omega, fun m hm => ?_⟩
  have := h3 m hm
  unfold MOk at this
  omega
theorem InvR.es {i : Nat} {s : St} (h : InvR i s) (hi : i ≤ 1000) : EvsOk s.evs := ⟨by rw [h.1.2]; exact hi, h.2.2⟩
theorem InvR.zero : InvR 0 ⟨[], []⟩ := ⟨⟨by simp, by simp⟩, by simp, by simp⟩
theorem finR_inv {i : Nat} {s : St} {x : Ev} {r : List Mem × Int} (h : InvR i s) (hx : x.sheet.length ≤ 100000) (h0 : (finR s x r).2 = 0) (hr : r.2 = 0 → r.1.length ≤ i + 1 ∧ ∀ m ∈ r.1, MOk (20 * ((i + 1 : Nat) : Int)) m) : InvR (i + 1) (finR s x r).1 := by
  unfold finR at h0 ⊢
  split at h0
  · rename_i hz
    rw [if_pos hz]
    obtain ⟨k1, k2⟩ := hr hz
    refine ⟨⟨k1, by simp [h.1.2]⟩, k2, fun y hy => ?_⟩
    rcases List.mem_append.1 hy with hy | hy
    · exact h.2.2 y hy
    · simp at hy; rw [hy]; exact hx
  · rename_i hz; exact absurd h0 hz
theorem ev_day {x : Ev} (h : evOk x = true) : 0 ≤ x.day ∧ x.day ≤ 16384 := by
  unfold evOk at h
  simp only [Bool.and_eq_true] at h
  exact inB_iff.1 h.1.1
theorem ev_rng {x : Ev} (h : evOk x = true) : 0 ≤ x.n ∧ x.n ≤ 255 ∧ (x.kind = 1 → x.n ≤ 20) := by
  unfold evOk at h
  simp only [Bool.and_eq_true] at h
  obtain ⟨⟨_, hk⟩, h⟩ := h
  rw [inB_iff] at hk
  split at h
  · simp only [Bool.and_eq_true, inB_iff] at h
    obtain ⟨⟨_, h⟩, _⟩ := h
    exact ⟨h.1, h.2, fun k => by omega⟩
  · simp only [Bool.and_eq_true] at h
    obtain ⟨_, h⟩ := h
    split at h
    · rw [inB_iff] at h; exact ⟨h.1, h.2, fun k => by omega⟩
    · split at h
      · rw [inB_iff] at h; exact ⟨by omega, by omega, fun k => h.2⟩
      · have := of_decide_eq_true h; exact ⟨by omega, by omega, fun k => by omega⟩
theorem mem_insM {l : List Mem} {m a : Mem} : a ∈ insM l m ↔ a = m ∨ a ∈ l := by
  unfold insM
  rw [List.mem_append, List.mem_cons, ← List.takeWhile_append_dropWhile (p := fun y => decide (y.person < m.person)) (l := l), List.mem_append]
  rw [List.takeWhile_append_dropWhile]
  constructor
  · rintro (h | h | h)
    · exact .inr (.inl h)
    · exact .inl h
    · exact .inr (.inr h)
  · rintro (h | h | h)
    · exact .inr (.inl h)
    · exact .inl h
    · exact .inr (.inr h)
theorem len_insM {l : List Mem} {m : Mem} : (insM l m).length = l.length + 1 := by
  unfold insM
  rw [List.length_append, List.length_cons, ← Nat.add_assoc, ← List.length_append, List.takeWhile_append_dropWhile]
theorem one_inv {m : Mem} {x : Ev} {b : Int} (h : MOk b m) (hx : 0 ≤ x.n ∧ (x.kind = 1 → x.n ≤ 20)) (hd : 0 ≤ x.day ∧ x.day ≤ 16384) : MOk (b + 20) (oneR m x).1 := by
  unfold MOk at h ⊢
  unfold oneR
  split
  · rename_i k; have := hx.2 k; simp only; omega
  split
  · simp only; omega
  split
  · split <;> simp only <;> omega
  split
  · split
    · simp only; omega
    · split
      · simp only; omega
      · simp only; omega
  split
  · simp only; omega
  · split <;> simp only <;> omega
theorem doR_inv {i : Nat} {s : St} {x : Ev} (h : InvR i s) (hk : evOk x = true) (hx : x.sheet.length ≤ 100000) (h0 : (doR s x).2 = 0) : InvR (i + 1) (doR s x).1 := by
  obtain ⟨n1, n2, n3⟩ := ev_rng hk
  have hd := ev_day hk
  unfold doR at h0 ⊢
  split
  · rename_i k
    rw [if_pos k] at h0
    refine finR_inv h hx h0 fun hz => ?_
    unfold joinR at hz ⊢
    split
    · rename_i c; rw [if_pos c] at hz; simp at hz
    · rename_i c
      rw [if_neg c] at hz
      split
      · rename_i c; rw [if_pos c] at hz; simp at hz
      · refine ⟨by simp only [len_insM]; have := h.1.1; omega, fun m hm => ?_⟩
        rcases mem_insM.1 hm with rfl | hm
        · unfold MOk; simp only; omega
        · have := h.2.1 m hm; unfold MOk at this ⊢; omega
  rename_i k
  rw [if_neg k] at h0
  split
  · rename_i k6
    rw [if_pos k6] at h0
    refine finR_inv h hx h0 fun hz => ?_
    unfold matchR at hz ⊢
    split
    · rename_i c; rw [if_pos c] at hz; simp at hz
    · rename_i c
      rw [if_neg c] at hz
      split
      · rename_i c; rw [if_pos c] at hz; simp only at hz; omega
      · refine ⟨by simp only [List.length_map]; have := h.1.1; omega, fun m hm => ?_⟩
        simp only [List.mem_map] at hm
        obtain ⟨a, ha, rfl⟩ := hm
        have := h.2.1 a ha
        unfold MOk at this ⊢
        unfold gam
        split
        · simp only; omega
        · omega
  rename_i k6
  rw [if_neg k6] at h0
  split
  · rename_i c; rw [if_pos c] at h0; simp at h0
  rename_i c
  rw [if_neg c] at h0
  refine finR_inv h hx h0 fun hz => ⟨by simp only [List.length_set]; have := h.1.1; omega, fun m hm => ?_⟩
  rcases List.mem_or_eq_of_mem_set hm with hm | rfl
  · have := h.2.1 m hm; unfold MOk at this ⊢; omega
  · rcases fnd_cases s.mem x.person with ⟨h1, _⟩ | ⟨j, hj, h1, _⟩
    · omega
    · rw [h1, Int.toNat_natCast]
      have := one_inv (x := x) (h.2.1 (s.mem.getD j default) (by rw [at_lt hj]; exact List.getElem_mem _)) ⟨n1, n3⟩ hd
      unfold MOk at this ⊢
      omega
def runN (l : List Ev) : Nat → Nat → St → St × Nat × Int
  | 0, i, s => (s, i, 0)
  | k + 1, i, s => if evOk (l.getD i default) = true then (if 0 < i ∧ (l.getD i default).day < (l.getD (i - 1) default).day then (s, i, 7) else if (doR s (l.getD i default)).2 = 0 then runN l k (i + 1) (doR s (l.getD i default)).1 else (s, i, (doR s (l.getD i default)).2)) else (s, i, 1)
def runR (l : List Ev) : St × Nat × Int := if 256 < l.length then (⟨[], []⟩, 0, 3) else runN l l.length 0 ⟨[], []⟩
def ShsOk (l : List Ev) : Prop := l.length ≤ 100000 ∧ ∀ x ∈ l, x.sheet.length ≤ 100000
theorem runN_inv {l : List Ev} (hl : ∀ x ∈ l, x.sheet.length ≤ 100000) : ∀ (k i : Nat) (s : St), i + k = l.length → InvR i s → ∃ j, j ≤ l.length ∧ InvR j (runN l k i s).1
  | 0, i, s, h, hI => ⟨i, by omega, hI⟩
  | k + 1, i, s, h, hI => by
    unfold runN
    have hlt : i < l.length := by omega
    split
    · rename_i c1
      split
      · exact ⟨i, by omega, hI⟩
      · split
        · rename_i c3
          exact runN_inv hl k (i + 1) _ (by omega) (doR_inv hI c1 (hl _ (by rw [at_lt hlt]; exact List.getElem_mem _)) c3)
        · exact ⟨i, by omega, hI⟩
    · exact ⟨i, by omega, hI⟩
theorem runR_inv {l : List Ev} (h : ShsOk l) : ∃ j, j ≤ 256 ∧ InvR j (runR l).1 := by
  unfold runR
  split
  · exact ⟨0, by omega, InvR.zero⟩
  · obtain ⟨j, h1, h2⟩ := runN_inv h.2 l.length 0 ⟨[], []⟩ (by omega) InvR.zero
    exact ⟨j, by omega, h2⟩
attribute [local irreducible] InvR
end Go.Proofs.Ytohkngiflfkjjaa
