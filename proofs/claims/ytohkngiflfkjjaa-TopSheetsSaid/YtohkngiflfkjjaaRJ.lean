/- A part of the proof that the last text ends: what functions of the program do, told by plain data. -/
import Derived.Test.YtohkngiflfkjjaaRI
set_option linter.unusedVariables false
set_option linter.unusedSimpArgs false
namespace Go.Proofs.Ytohkngiflfkjjaa
open Go Go.E
set_option maxRecDepth 100000
set_option maxHeartbeats 16000000
/-! ### The document's answers -/
def lateB (l : List Ev) (d : Int) : Bool := inB d 0 16384 && (decide ((l.length : Int) = 0) || decide ((l.getD (l.length - 1) default).day ≤ d))
def playR (l : List Ev) : List Mem × Int × Int := if (runR l).2.2 = 0 then ((runR l).1.mem, ((runR l).2.1 : Int), 0) else ([], ((runR l).2.1 : Int), (runR l).2.2)
def ableP (evs : List Ev) (c d : Int) (m : Mem) : Bool := decide (m.club = c) && decide (why evs m d = [])
def ableN (s : St) (c d : Int) (k : Nat) : List Int := ((s.mem.take k).filter (ableP s.evs c d)).map (·.person)
def ableR (l : List Ev) (c d : Int) : List Int × Int := if (runR l).2.2 = 0 then (if inB c 0 255 = true ∧ lateB l d = true then (ableN (runR l).1 c d (runR l).1.mem.length, 0) else ([], 2)) else ([], (runR l).2.2)
def backM (m : Mem) : Int × Int := (m.ban, if m.stage = 0 then 0 else m.since + 6 - m.stage + 1)
def backR (l : List Ev) (p : Int) : (Int × Int) × Int := if (runR l).2.2 = 0 then (if fnd (runR l).1.mem p < 0 then ((0, 0), 4) else (backM ((runR l).1.mem.getD (fnd (runR l).1.mem p).toNat default), 0)) else ((0, 0), (runR l).2.2)
/-- The state behind all events. -/
theorem runR_ok {l : List Ev} (h : ShsOk l) : (MemsOk (runR l).1.mem ∧ EvsOk (runR l).1.evs) ∧ ∀ m ∈ (runR l).1.mem, MOk 5120 m := by
  obtain ⟨j, hj, hI⟩ := runR_inv h
  refine ⟨⟨hI.ms (by omega), hI.es (by omega)⟩, fun m hm => ?_⟩
  have := hI.2.1 m hm
  unfold MOk at this ⊢
  omega
theorem ableN_yes {s : St} {c d : Int} {k : Nat} (h : k < s.mem.length) (hc : ableP s.evs c d (s.mem.getD k default) = true) : ableN s c d (k + 1) = ableN s c d k ++ [(s.mem.getD k default).person] := by
  unfold ableN
  rw [take_succ h, List.filter_append, List.map_append]
  congr 1
  simp only [List.filter_cons, hc, if_true, List.filter_nil, List.map_cons, List.map_nil]
theorem ableN_no {s : St} {c d : Int} {k : Nat} (h : k < s.mem.length) (hc : ableP s.evs c d (s.mem.getD k default) = false) : ableN s c d (k + 1) = ableN s c d k := by
  unfold ableN
  rw [take_succ h, List.filter_append, List.map_append]
  simp only [List.filter_cons, hc, Bool.false_eq_true, if_false, List.filter_nil, List.map_nil, List.append_nil]
theorem ableN_len {s : St} {c d : Int} {k : Nat} (h : k ≤ s.mem.length) : (ableN s c d k).length ≤ k := by
  unfold ableN
  rw [List.length_map]
  exact Nat.le_trans (List.length_filter_le _ _) (by simp; omega)
end Go.Proofs.Ytohkngiflfkjjaa
