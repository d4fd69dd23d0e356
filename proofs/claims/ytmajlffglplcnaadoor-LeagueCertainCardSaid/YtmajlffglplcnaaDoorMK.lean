/- A part of the proof that the last text ends: what functions of the program do, told by plain data. -/
import Derived.Test.YtmajlffglplcnaaDoorMJ
import Derived.Test.YtmajlffglplcnaaDoorEc
set_option linter.unusedVariables false
set_option linter.unusedSimpArgs false
namespace Go.Proofs.YtmajlffglplcnaaDoor
open Go Go.E
set_option maxRecDepth 100000
set_option maxHeartbeats 16000000
def outsL : Nat → List Int → List (List Int)
  | 0, b => [b]
  | k + 1, b => (List.range 4).flatMap fun (i : Nat) => outsL k (b ++ [(i : Int)])
def outP (k : Nat) (b : List Int) (i : Nat) : List (List Int) := (List.range i).flatMap fun (j : Nat) => outsL k (b ++ [(j : Int)])
theorem outP_succ {k : Nat} {b : List Int} {i : Nat} : outP k b (i + 1) = outP k b i ++ outsL k (b ++ [(i : Int)]) := by
  unfold outP; rw [List.range_succ, List.flatMap_append]; simp
theorem outP_all {k : Nat} {b : List Int} : outP k b 4 = outsL (k + 1) b := rfl
theorem outsL_len : ∀ (k : Nat) (b : List Int), (outsL k b).length = 4 ^ k
  | 0, _ => rfl
  | k + 1, b => by
    rw [← outP_all]
    have : ∀ i, (outP k b i).length = i * 4 ^ k := fun i => by
      induction i with
      | zero => simp [outP]
      | succ i ih => rw [outP_succ, List.length_append, ih, outsL_len k]; rw [Nat.add_mul, Nat.one_mul]
    rw [this, Nat.pow_succ, Nat.mul_comm]
end Go.Proofs.YtmajlffglplcnaaDoor
