/- A part of the proof that the last text ends: what functions of the program do, told by plain data. -/
import Derived.Test.YtapglfcaghlpfaaSI
set_option linter.unusedVariables false
set_option linter.unusedSimpArgs false
namespace Go.Proofs.Ytapglfcaghlpfaa
open Go Go.E Go.Maps
set_option maxRecDepth 100000
set_option maxHeartbeats 16000000
structure Valid (r : Rul) (s : Ska) (n : Int) : Prop where
  bases : 1 ≤ r.bases.length ∧ r.bases.length ≤ 64
  base : ∀ x ∈ r.bases, 0 ≤ x ∧ x ≤ 2000
  factor : 0 ≤ r.factor ∧ r.factor ≤ 1000
  most : 1 ≤ r.most ∧ r.most ≤ 16
  jn : 0 ≤ n ∧ n ≤ 9
  calls : s.calls.length ≤ 16
  parts : s.parts.length ≤ 5
  over : 0 ≤ s.over ∧ s.over ≤ 600
  call : ∀ x ∈ s.calls, (0 ≤ x.place ∧ x.place ≤ 99) ∧ (0 ≤ x.elem ∧ x.elem < r.bases.length) ∧ (0 ≤ x.under ∧ x.under ≤ 2) ∧ ((x.marks.length : Int) = n ∧ 1 ≤ x.marks.length) ∧ ∀ y ∈ x.marks, -5 ≤ y ∧ y ≤ 5
  part : ∀ p ∈ s.parts, ((p.length : Int) = n ∧ 1 ≤ p.length) ∧ ∀ y ∈ p, 0 ≤ y ∧ y ≤ 40
theorem Valid.cat {r : Rul} {s : Ska} {n : Int} (h : Valid r s n) {i : Nat} (hi : i < s.calls.length) : (0 ≤ (s.calls.getD i default).place ∧ (s.calls.getD i default).place ≤ 99) ∧ (0 ≤ (s.calls.getD i default).elem ∧ (s.calls.getD i default).elem < r.bases.length) ∧ (0 ≤ (s.calls.getD i default).under ∧ (s.calls.getD i default).under ≤ 2) ∧ (((s.calls.getD i default).marks.length : Int) = n ∧ 1 ≤ (s.calls.getD i default).marks.length) ∧ ∀ y ∈ (s.calls.getD i default).marks, -5 ≤ y ∧ y ≤ 5 := h.call _ (by rw [at_lt hi]; exact List.getElem_mem _)
def cntE (l : List Cal) (c : Cal) : Nat → Int
  | 0 => 0
  | k + 1 => cntE l c k + if (l.getD k default).elem = c.elem ∧ (l.getD k default).place < c.place then 1 else 0
def countsB (r : Rul) (s : Ska) (i : Nat) : Bool := decide (cntE s.calls (s.calls.getD i default) s.calls.length < r.most)
theorem Mks.of {l : List Int} (h1 : 1 ≤ l.length) (h2 : (l.length : Int) ≤ 9) (h3 : ∀ y ∈ l, -40 ≤ y ∧ y ≤ 40) : Mks l := ⟨by omega, fun x hx => by have := h3 x hx; omega⟩
theorem cnts_b {l : List Int} (h1 : 1 ≤ l.length) (h2 : (l.length : Int) ≤ 9) (h3 : ∀ y ∈ l, -40 ≤ y ∧ y ≤ 40) : (-11000 ≤ (cnts l).1 ∧ (cnts l).1 ≤ 11000) ∧ 1 ≤ (cnts l).2 ∧ (cnts l).2 ≤ 9 := by
  have := c_b (Mks.of h1 h2 h3) l.length (Nat.le_refl _)
  unfold cnts
  split
  · simp only; omega
  · simp only; omega
def valR (r : Rul) (s : Ska) (i : Nat) : Int :=
  if countsB r s i = true then rnd (r.bases.getD (s.calls.getD i default).elem.toNat default * (10 - 2 * (s.calls.getD i default).under) * (if (s.calls.getD i default).late = true then 11 else 10)) 100 + rnd ((cnts (s.calls.getD i default).marks).1 * (r.bases.getD (s.calls.getD i default).elem.toNat default * (10 - 2 * (s.calls.getD i default).under))) (100 * (cnts (s.calls.getD i default).marks).2) else 0
theorem mul_b {a b A B : Int} (h1 : 0 ≤ a) (h2 : a ≤ A) (h3 : 0 ≤ b) (h4 : b ≤ B) : 0 ≤ a * b ∧ a * b ≤ A * B := ⟨Int.mul_nonneg h1 h3, Int.mul_le_mul h2 h4 h3 (by omega)⟩
theorem mul_c {a b A B : Int} (h0 : 0 ≤ A) (h1 : -A ≤ a) (h2 : a ≤ A) (h3 : 0 ≤ b) (h4 : b ≤ B) : -(A * B) ≤ a * b ∧ a * b ≤ A * B := by
  have k1 := Int.mul_le_mul_of_nonneg_right h2 h3
  have k2 := Int.mul_le_mul_of_nonneg_right h1 h3
  have k3 := Int.mul_le_mul_of_nonneg_left h4 h0
  rw [Int.neg_mul] at k2
  omega
theorem rnd_b {a b A : Int} (h1 : -A ≤ a) (h2 : a ≤ A) (hb : 1 ≤ b) : -(2 * A + b) ≤ rnd a b ∧ rnd a b ≤ 2 * A + b := by
  unfold rnd
  split
  · have k1 : 0 ≤ (2 * -a + b) / (2 * b) := Int.ediv_nonneg (by omega) (by omega)
    have k2 : (2 * -a + b) / (2 * b) ≤ 2 * -a + b := Int.ediv_le_self _ (by omega)
    generalize (2 * -a + b) / (2 * b) = q at k1 k2 ⊢
    omega
  · have k1 : 0 ≤ (2 * a + b) / (2 * b) := Int.ediv_nonneg (by omega) (by omega)
    have k2 : (2 * a + b) / (2 * b) ≤ 2 * a + b := Int.ediv_le_self _ (by omega)
    generalize (2 * a + b) / (2 * b) = q at k1 k2 ⊢
    omega
end Go.Proofs.Ytapglfcaghlpfaa
