/- A part of the proof that the last text ends: what functions of the program do, told by plain data. -/
import Derived.Test.YtohkngiflfkjjaaQI
set_option linter.unusedVariables false
set_option linter.unusedSimpArgs false
namespace Go.Proofs.Ytohkngiflfkjjaa
open Go Go.E
set_option maxRecDepth 100000
/-! ### Able: who can be on a sheet -/
def ableL (s : St) (c d : Int) : List Int := ableN s c d s.mem.length
def kN (s : St) (c d : Int) (i : Nat) : Nat := (ableN s c d i).length
theorem kN_le {s : St} {c d : Int} {i : Nat} (h : i ≤ s.mem.length) : kN s c d i ≤ i := ableN_len h
theorem mem_able {s : St} (hs : Srt s.mem) {c d q : Int} (h : q ∈ ableL s c d) : ∃ m, mo s q = some m ∧ m.club = c ∧ why s.evs m d = [] := by
  unfold ableL ableN at h
  rw [List.take_length] at h
  obtain ⟨m, h1, rfl⟩ := List.mem_map.1 h
  obtain ⟨h2, h3⟩ := List.mem_filter.1 h1
  unfold ableP at h3
  rw [Bool.and_eq_true, decide_eq_true_eq, decide_eq_true_eq] at h3
  exact ⟨m, (mo_some hs).2 ⟨h2, rfl⟩, h3.1, h3.2⟩
theorem able_pw {s : St} (hs : Srt s.mem) {c d : Int} : (ableL s c d).Pairwise (· < ·) := by
  unfold ableL ableN
  rw [List.take_length, List.pairwise_map]
  exact List.Pairwise.filter _ hs
theorem sh_of {l : List Int} (hr : ∀ q ∈ l, 0 ≤ q ∧ q ≤ 4095) (hp : l.Pairwise (· < ·)) : ∀ (k i : Nat), i + k = l.length → shN l k i = true
  | 0, _, _ => rfl
  | k + 1, i, h => by
    unfold shN
    rw [Bool.and_eq_true, Bool.and_eq_true, Bool.or_eq_true, decide_eq_true_eq, decide_eq_true_eq, inB_iff]
    have hi : i < l.length := by omega
    refine ⟨⟨hr _ (by rw [at_lt hi]; exact List.getElem_mem _), ?_⟩, sh_of hr hp k (i + 1) (by omega)⟩
    rcases Nat.eq_zero_or_pos i with h0 | h0
    · exact .inl h0
    · right
      rw [at_lt hi, at_lt (by omega)]
      exact List.pairwise_iff_getElem.1 hp (i - 1) i (by omega) hi (by omega)
theorem sheet_ok {c d : Int} {sh : List Int} (hd : 0 ≤ d ∧ d ≤ 16384) (hc : 0 ≤ c ∧ c ≤ 255) (hr : ∀ q ∈ sh, 0 ≤ q ∧ q ≤ 4095) (hp : sh.Pairwise (· < ·)) (hl : sh.length ≤ 20) : evOk ⟨d, 6, 0, c, sh⟩ = true := by
  have h1 := sh_of hr hp sh.length 0 (by omega)
  unfold evOk shOk
  simp only
  rw [if_true, h1, inB_iff.2 hd, inB_iff.2 hc, decide_eq_true (p := (sh.length : Int) ≤ 20) (by omega)]
  rfl
theorem late_lateE {l : List Ev} {d : Int} (h : lateB l d = true) : lateE l d := fun h0 => by
  unfold lateB at h
  simp only [Bool.and_eq_true, Bool.or_eq_true, decide_eq_true_eq] at h
  rcases h.2 with h1 | h1
  · omega
  · exact h1
theorem mem_rng {l : List Ev} (h : Good l) {q : Int} {m : Mem} (hm : mo (runR l).1 q = some m) : 0 ≤ q ∧ q ≤ 4095 := by
  obtain ⟨h1, h2⟩ := (mo_some h.srt).1 hm
  rw [← h2]; exact (h.rng m h1).1
/-- A match behind the events. -/
theorem match_run2 {l : List Ev} (h : Good l) (hl : l.length ≤ 200) {c d : Int} (hc : 0 ≤ c ∧ c ≤ 255) (hd : lateB l d = true) {sh : List Int} (hr : ∀ q ∈ sh, 0 ≤ q ∧ q ≤ 4095) (hp : sh.Pairwise (· < ·)) (hs : sh.length ≤ 20) :
    (l.any (sameE d c) = true → (runR (l ++ [⟨d, 6, 0, c, sh⟩])).2.2 = 5) ∧ (l.any (sameE d c) = false → ((runR (l ++ [⟨d, 6, 0, c, sh⟩])).2.2 = 0 ↔ ∀ q ∈ sh, ∃ m, mo (runR l).1 q = some m ∧ m.club = c ∧ why l m d = [])) := by
  have hx := sheet_ok (late_rng hd) hc hr hp hs
  have hz := doR_zero (s := (runR l).1) (x := ⟨d, 6, 0, c, sh⟩)
  have hrun := run_snoc h.ok (by omega) hx (late_lateE hd)
  unfold AccD at hz
  simp only at hz
  rw [if_neg (by decide), if_true, h.evs] at hz
  constructor
  · intro hany
    have : (doR (runR l).1 ⟨d, 6, 0, c, sh⟩) = ((runR l).1, 5) := doR_m1 rfl (by rw [h.evs]; exact hany)
    rw [hrun, this]
    rfl
  · intro hany
    rw [hany] at hz
    simp only [true_and] at hz
    rw [hrun]
    split
    · rename_i q; exact ⟨fun _ => hz.1 q, fun _ => rfl⟩
    · rename_i q; exact ⟨fun h => absurd h q, fun h => absurd (hz.2 h) q⟩
end Go.Proofs.Ytohkngiflfkjjaa
