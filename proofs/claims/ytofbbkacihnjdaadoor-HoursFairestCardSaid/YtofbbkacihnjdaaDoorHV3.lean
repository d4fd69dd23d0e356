/- A part of the proof that the last text ends: what functions of the program do, told by plain data. -/
import Derived.Test.YtofbbkacihnjdaaDoorHV2
set_option linter.unusedVariables false
set_option linter.unusedSimpArgs false
namespace Go.Proofs.YtofbbkacihnjdaaDoor
open Go Go.E Go.Maps
set_option maxRecDepth 100000
set_option maxHeartbeats 16000000
theorem wr32 : ∀ x, x < 32 → IntKind.u64.wrap (((x : Nat) : Int) + 1) = ((x + 1 : Nat) : Int) := by decide +kernel
def lackB (t : Tt) (p : List Int) (x : Nat) : Bool := !((stL t t.hours.length).any fun s => (lw x).all fun k => decide (p.getD k.toNat default ≤ s.n.at k))
def hsS (b l : List Int) : List Int := if b.length = 0 ∨ l.length < b.length ∨ (l.length = b.length ∧ cmpL l b < 0) then l else b
def hsN (t : Tt) (p : List Int) : Nat → List Int
  | 0 => []
  | x + 1 => if lackB t p x = true then hsS (hsN t p x) (lw x) else hsN t p x
def hiR (t : Tt) (p : List Int) : List Int × Int := if ttOk t = true then (if (p.length : Int) = t.groups.length ∧ (p.all fun x => inB x 0 12) = true then (hsN t p (2 ^ t.groups.length), 0) else ([], 2)) else ([], 1)
theorem lack_yes {t : Tt} {p : List Int} {x : Nat} {M : List (Sd × Bool)} (hM : MR (stR t t.hours.length) M) {xs : List Nat} (ha : ∀ i, i < M.length → i ∈ xs) (hq : ∀ q, q < xs.length → ((lw x).all fun g => decide (p.getD g.toNat default ≤ (M.getD (xs.getD q default) default).1.n.at g)) = false) : lackB t p x = true := by
  unfold lackB
  cases hb : (stL t t.hours.length).any fun s => (lw x).all fun k => decide (p.getD k.toNat default ≤ s.n.at k) with
  | false => rfl
  | true =>
    obtain ⟨s, hs, h2⟩ := List.any_eq_true.1 hb
    obtain ⟨v, hv⟩ := (hM.2 s).2 ((mem_stL _ _).1 hs)
    obtain ⟨j, hj, e⟩ := List.getElem_of_mem hv
    obtain ⟨q, hq1, hq2⟩ := List.getElem_of_mem (ha j hj)
    have h3 := hq q hq1
    rw [at_lt hq1, hq2, at_lt hj, e] at h3
    rw [h3] at h2
    cases h2
theorem lack_no {t : Tt} {p : List Int} {x : Nat} {M : List (Sd × Bool)} (hM : MR (stR t t.hours.length) M) {xs : List Nat} (hx : ∀ i ∈ xs, i < M.length) {q : Nat} (hq1 : q < xs.length) (hq : ((lw x).all fun g => decide (p.getD g.toNat default ≤ (M.getD (xs.getD q default) default).1.n.at g)) = true) : ¬ lackB t p x = true := by
  unfold lackB
  rw [List.any_eq_true.2 ⟨(M.getD (xs.getD q default) default).1, (mem_stL _ _).2 (hM.at (hx _ (by rw [at_lt hq1]; exact List.getElem_mem _))), hq⟩]
  simp
theorem hs_yes {t : Tt} {p : List Int} {x : Nat} (h : lackB t p x = true) : hsN t p (x + 1) = hsS (hsN t p x) (lw x) := by rw [hsN, if_pos h]
theorem hs_no {t : Tt} {p : List Int} {x : Nat} (h : ¬ lackB t p x = true) : hsN t p (x + 1) = hsN t p x := by rw [hsN, if_neg h]
theorem hsS_yes {b l : List Int} (h : b.length = 0 ∨ l.length < b.length ∨ (l.length = b.length ∧ cmpL l b < 0)) : hsS b l = l := if_pos h
theorem hsS_no {b l : List Int} (h : ¬ (b.length = 0 ∨ l.length < b.length ∨ (l.length = b.length ∧ cmpL l b < 0))) : hsS b l = b := if_neg h
theorem hs_len {t : Tt} {p : List Int} : ∀ x, x ≤ 32 → (hsN t p x).length ≤ 5
  | 0, _ => Nat.zero_le _
  | x + 1, h => by
    have := hs_len (t := t) (p := p) x (by omega)
    rw [hsN]
    split
    · unfold hsS
      split
      · exact (lw_len x (by omega)).1
      · exact this
    · exact this
end Go.Proofs.YtofbbkacihnjdaaDoor
