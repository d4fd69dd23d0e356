/- A part of the proof that the last text ends: what functions of the program do, told by plain data. -/
import Derived.Test.YtofbbkacihnjdaaTIj
import Derived.Test.YtofbbkacihnjdaaEc
set_option linter.unusedVariables false
set_option linter.unusedSimpArgs false
namespace Go.Proofs.Ytofbbkacihnjdaa.Ic
open Go Go.E Go.Maps
set_option maxRecDepth 100000
set_option maxHeartbeats 4000000
structure Ev where
  kind : Int
  a : Pn
  deriving Inhabited, DecidableEq
abbrev Ev.c (n : Nat) (x : Ev) : List D := [.i x.kind, .i 0, .i ((n : Int) - 1), .i x.a.lo, .i x.a.hi]
structure Rs where
  z : List Zo
  fz : Pn
  pl : Pn
  wo : Pn
  deriving Inhabited
abbrev Rs.c (s : Rs) : List AV := [.own 32021 82 4 (s.z.map Zo.c), .d (.i s.fz.lo), .d (.i s.fz.hi), .d (.i s.pl.lo), .d (.i s.pl.hi), .d (.i s.wo.lo), .d (.i s.wo.hi)]
def sZ (x : Ev) (s : Rs) (i : Nat) : Rs :=
  if x.kind = 0 then ⟨s.z.set i ⟨(s.z.getD i default).ice.more x.a, (s.z.getD i default).paint⟩, s.fz.more x.a, s.pl, s.wo⟩
  else if x.kind = 1 then ⟨s.z.set i ⟨(s.z.getD i default).ice.less x.a, (s.z.getD i default).paint⟩, s.fz, s.pl.more ((s.z.getD i default).ice.taken x.a), s.wo⟩
  else ⟨s.z.set i ⟨(s.z.getD i default).ice.less x.a, (s.z.getD i default).paint⟩, s.fz, s.pl, s.wo.more ((s.z.getD i default).ice.taken x.a)⟩
def bZ (x : Ev) (s : Rs) (i : Nat) : Bool := decide (x.kind = 0) && decide (20000 < (s.z.getD i default).ice.hi + x.a.hi)
def evN (x : Ev) : Nat → Nat → Rs → Rs × Bool
  | 0, _, s => (s, true)
  | k + 1, i, s => if bZ x s i = true then (sZ x s i, false) else evN x k (i + 1) (sZ x s i)
def plN' (l : List Ev) : Nat → Nat → Rs → Rs × Nat × Int
  | 0, i, s => (s, i, 0)
  | k + 1, i, s => if (evN (l.getD i default) s.z.length 0 s).2 = true then plN' l k (i + 1) (evN (l.getD i default) s.z.length 0 s).1 else ((evN (l.getD i default) s.z.length 0 s).1, i, 12)
def pyR (l : List Ev) (s : Rs) : Rs × Nat × Int := plN' l l.length 0 s
theorem sZ_len {x : Ev} {s : Rs} {i : Nat} : (sZ x s i).z.length = s.z.length := by
  unfold sZ; split
  · simp
  split <;> simp
def inP (s : Pn) (b : Int) : Prop := 0 ≤ s.lo ∧ s.lo ≤ s.hi ∧ s.hi ≤ b
structure Rs.ok (s : Rs) (b : Int) : Prop where
  z : ∀ z ∈ s.z, inP z.ice 20000
  fz : inP s.fz b
  pl : inP s.pl b
  wo : inP s.wo b
structure Ev.ok (x : Ev) : Prop where
  k : x.kind = 0 ∨ x.kind = 1 ∨ x.kind = 2
  a : x.a.ok = true
theorem inP_up {s : Pn} {b c : Int} (h : inP s b) (hc : b ≤ c) : inP s c := ⟨h.1, h.2.1, Int.le_trans h.2.2 hc⟩
theorem ok_in {s : Pn} (h : s.ok = true) : inP s 20000 := by
  unfold Pn.ok at h
  simp only [Bool.and_eq_true, decide_eq_true_eq] at h
  exact h
theorem inP_sm {s : Pn} {b : Int} (h : inP s b) (hb : b ≤ 1000000000) : s.sm := by
  obtain ⟨h1, h2, h3⟩ := h
  exact ⟨⟨by omega, by omega⟩, by omega, by omega⟩
theorem more_in {s t : Pn} {b c : Int} (h : inP s b) (k : inP t c) : inP (s.more t) (b + c) := by
  unfold inP Pn.more at *; dsimp only; omega
theorem less_in {s t : Pn} {b c : Int} (h : inP s b) (k : inP t c) : inP (s.less t) b := by
  unfold inP Pn.less at *; dsimp only; omega
theorem taken_in {s t : Pn} {b c : Int} (h : inP s b) (k : inP t c) : inP (s.taken t) c := by
  unfold inP Pn.taken at *; dsimp only; omega
theorem Rs.ok.nth {s : Rs} {b : Int} (h : s.ok b) {i : Nat} (hi : i < s.z.length) : inP (s.z.getD i default).ice 20000 := by
  rw [at_lt hi]; exact h.z _ (List.getElem_mem _)
theorem sZ_ok {x : Ev} {s : Rs} {b : Int} {i : Nat} (hx : x.ok) (h : s.ok b) (hi : i < s.z.length) (hz : bZ x s i = false) : (sZ x s i).ok (b + 20000) := by
  have ha := ok_in hx.a
  have hz0 := h.nth hi
  have hset : ∀ {p : Pn}, inP p 20000 → ∀ z ∈ s.z.set i ⟨p, (s.z.getD i default).paint⟩, inP z.ice 20000 := fun {p} hp z hz => by
    rcases List.mem_or_eq_of_mem_set hz with h1 | h1
    · exact h.z z h1
    · rw [h1]; exact hp
  have hb' : b ≤ b + 20000 := by omega
  unfold sZ
  split
  · rename_i k0
    refine ⟨hset ?_, more_in h.fz ha, inP_up h.pl hb', inP_up h.wo hb'⟩
    unfold bZ at hz
    rw [k0] at hz
    simp only [decide_true, Bool.true_and, decide_eq_false_iff_not] at hz
    unfold inP Pn.more at *
    dsimp only
    omega
  split
  · exact ⟨hset (less_in hz0 ha), inP_up h.fz hb', more_in h.pl (taken_in hz0 ha), inP_up h.wo hb'⟩
  · exact ⟨hset (less_in hz0 ha), inP_up h.fz hb', inP_up h.pl hb', more_in h.wo (taken_in hz0 ha)⟩
theorem sZ0 {a : Pn} {s : Rs} {i : Nat} : sZ ⟨0, a⟩ s i = ⟨s.z.set i ⟨(s.z.getD i default).ice.more a, (s.z.getD i default).paint⟩, s.fz.more a, s.pl, s.wo⟩ := by unfold sZ; rw [if_pos rfl]
theorem sZ1 {a : Pn} {s : Rs} {i : Nat} : sZ ⟨1, a⟩ s i = ⟨s.z.set i ⟨(s.z.getD i default).ice.less a, (s.z.getD i default).paint⟩, s.fz, s.pl.more ((s.z.getD i default).ice.taken a), s.wo⟩ := by unfold sZ; rw [if_neg (by simp), if_pos rfl]
theorem sZ2 {a : Pn} {s : Rs} {i : Nat} : sZ ⟨2, a⟩ s i = ⟨s.z.set i ⟨(s.z.getD i default).ice.less a, (s.z.getD i default).paint⟩, s.fz, s.pl, s.wo.more ((s.z.getD i default).ice.taken a)⟩ := by unfold sZ; rw [if_neg (by simp), if_neg (by simp)]
theorem Rs.ok.up {s : Rs} {b c : Int} (h : s.ok b) (hc : b ≤ c) : s.ok c := ⟨h.z, inP_up h.fz hc, inP_up h.pl hc, inP_up h.wo hc⟩
theorem evN_bad {x : Ev} {s : Rs} {n j : Nat} (hj : j < n) (h : bZ x s j = true) : evN x (n - j) j s = (sZ x s j, false) := by
  rw [show n - j = (n - (j + 1)) + 1 by omega, evN, if_pos h]
theorem evN_go {x : Ev} {s : Rs} {n j : Nat} (hj : j < n) (h : bZ x s j = false) : evN x (n - j) j s = evN x (n - (j + 1)) (j + 1) (sZ x s j) := by
  rw [show n - j = (n - (j + 1)) + 1 by omega, evN, if_neg (by rw [h]; decide)]
theorem plN_go {l : List Ev} {s y : Rs} {i n : Nat} {x : Ev} (hi : i < l.length) (hx : l.getD i default = x) (hn : s.z.length = n) (h : evN x n 0 s = (y, true)) : plN' l (l.length - i) i s = plN' l (l.length - (i + 1)) (i + 1) y := by
  rw [show l.length - i = (l.length - (i + 1)) + 1 by omega, plN', hx, hn, h, if_pos rfl]
theorem plN_bad {l : List Ev} {s y : Rs} {i n : Nat} {x : Ev} (hi : i < l.length) (hx : l.getD i default = x) (hn : s.z.length = n) (h : evN x n 0 s = (y, false)) : plN' l (l.length - i) i s = (y, i, 12) := by
  rw [show l.length - i = (l.length - (i + 1)) + 1 by omega, plN', hx, hn, h, if_neg (by simp)]
theorem set_at {l : List (List D)} {j : Nat} (h : j < l.length) (v : List D) : (l.set j v).getD j [] = v := by
  rw [List.getD_eq_getElem?_getD, List.getElem?_set_self h]; rfl
end Go.Proofs.Ytofbbkacihnjdaa.Ic
