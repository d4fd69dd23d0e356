/- A part of the proof that the last text ends: what functions of the program do, told by plain data. -/
import Derived.Test.YtmkigohedfcomaaTF
set_option linter.unusedVariables false
set_option linter.unusedSimpArgs false
namespace Go.Proofs.Ytmkigohedfcomaa
open Go Go.E Go.Maps
theorem laid : laidOutB Try.prog = true := by kernel_rfl
theorem key74 : Keyed Try.prog 74 := Keyed.of_law (deep_law_laid laid (m := 2) (by omega) (of_decide_eq_true (by kernel_rfl)) (by kernel_rfl) (by kernel_rfl))
theorem key74' : Keyed Try.prog 74 = True := propext ⟨fun _ => trivial, fun _ => key74⟩
theorem keyOf74 {a b : Int} (ha : -9223372036854775808 ≤ a ∧ a ≤ 9223372036854775807) (hb : 0 ≤ b ∧ b ≤ 18446744073709551615) : (keyOf Try.prog 74 (.agg #[.int .i64 a, .int .u64 b])).isSome = true := by
  have h1 : Try.prog.underlying 74 = some (.struct (Try.prog.fieldsOf 74)) := by kernel_rfl
  have h2 : (Try.prog.fieldsOf 74) = #[(Try.prog.fieldsOf 74)[0]!, (Try.prog.fieldsOf 74)[1]!] := by kernel_rfl
  have t0 : (Try.prog.fieldsOf 74)[0]!.type = 3 := by kernel_rfl
  have o0 : (Try.prog.fieldsOf 74)[0]!.offset = 0 := by kernel_rfl
  have t1 : (Try.prog.fieldsOf 74)[1]!.type = 72 := by kernel_rfl
  have o1 : (Try.prog.fieldsOf 74)[1]!.offset = 1 := by kernel_rfl
  have nm : (Try.prog.fieldsOf 74).all (·.name != "_") = true := by kernel_rfl
  have c0 : Try.prog.cellsOf 3 = 1 := by kernel_rfl
  have c1 : Try.prog.cellsOf 72 = 1 := by kernel_rfl
  have c2 : Try.prog.cellsOf 74 = 2 := by kernel_rfl
  have u0 : Try.prog.underlying 3 = some (.int .i64) := by kernel_rfl
  have u1 : Try.prog.underlying 72 = some (.int .u64) := by kernel_rfl
  have kt : Try.prog.keyType 74 = true := by kernel_rfl
  have sz : Try.prog.types.size = 127 := by kernel_rfl
  have w0 : (Lit.int .i64 a).wf = true := by simp [Lit.wf, IntKind.min, IntKind.max, IntKind.signed, IntKind.bits]; omega
  have w1 : (Lit.int .u64 b).wf = true := by simp [Lit.wf, IntKind.min, IntKind.max, IntKind.signed, IntKind.bits]; omega
  have fm : Value.formed Try.prog 74 (.agg #[.int .i64 a, .int .u64 b]) = true := by simp [Value.formed, h1, c2]
  have k0 : Try.prog.keyLits 127 3 [.int .i64 a] = some [.int .i64 a] := by simp [Program.keyLits, u0, w0]
  have k1 : Try.prog.keyLits 127 72 [.int .u64 b] = some [.int .u64 b] := by simp [Program.keyLits, u1, w1]
  unfold keyOf
  simp only [h1]
  rw [sz, kt, fm]
  unfold Program.keyLits
  simp only [h1, Value.cells, nm, c2]
  rw [h2]
  simp [t0, t1, o0, o1, c0, c1, k0, k1]
#print axioms keyOf74
