/- A part of the proof that the last text ends: what functions of the program do, told by plain data. -/
import Derived.Test.YtapglfcaghlpfaaSH
import Derived.Test.YtapglfcaghlpfaaSR
set_option linter.unusedVariables false
set_option linter.unusedSimpArgs false
namespace Go.Proofs.Ytapglfcaghlpfaa
open Go Go.E Go.Maps
set_option maxRecDepth 100000
set_option maxHeartbeats 16000000
theorem avi {x y : Int} (h : x = y) : AV.d (D.v (Value.int .i64 x)) = AV.i y := by rw [h]
theorem off_b {f : Nat} {sec : Int} (h0 : 0 ≤ sec) (h1 : sec ≤ 100000) (hf : f ≤ 1000) : 0 ≤ off f sec ∧ off f sec ≤ 10300400 := by
  have := offN_b f
  have h2 : 0 ≤ (sec + 4) / 5 := Int.ediv_nonneg (by omega) (by omega)
  have h3 : (sec + 4) / 5 ≤ sec + 4 := Int.ediv_le_self _ (by omega)
  unfold off; omega
end Go.Proofs.Ytapglfcaghlpfaa
