/- A part of the proof that the last text ends: what functions of the program do, told by plain data. -/
import Derived.Test.YtofbbkacihnjdaaDoorHV
set_option linter.unusedVariables false
set_option linter.unusedSimpArgs false
namespace Go.Proofs.YtofbbkacihnjdaaDoor
open Go Go.E Go.Maps
set_option maxRecDepth 100000
set_option maxHeartbeats 16000000
def codeS (s : Sd) : Nat := (((((s.l + 1).toNat * 13 + s.n.a.toNat) * 13 + s.n.b.toNat) * 13 + s.n.c.toNat) * 13 + s.n.d.toNat) * 13 + s.n.e.toNat
theorem code_lt {k : Nat} (hk : k ≤ 12) {s : Sd} (h : StB k s) : codeS s < 2227758 := by
  unfold StB at h
  unfold codeS
  omega
theorem code_inj {k : Nat} (hk : k ≤ 12) {s u : Sd} (h : StB k s) (h' : StB k u) (he : codeS s = codeS u) : s = u := by
  unfold StB at h h'
  unfold codeS at he
  obtain ⟨sh, sl, a, b, c, d, e⟩ := s
  obtain ⟨uh, ul, a', b', c', d', e'⟩ := u
  simp only at h h' he
  have e1 : sh = uh := by omega
  have e2 : sl = ul := by omega
  have e3 : a = a' := by omega
  have e4 : b = b' := by omega
  have e5 : c = c' := by omega
  have e6 : d = d' := by omega
  have e7 : e = e' := by omega
  subst e1 e2 e3 e4 e5 e6 e7
  rfl
theorem MR_len {t : Tt} {k : Nat} (h5 : t.groups.length ≤ 5) (hk : k ≤ 12) {M : List (Sd × Bool)} (hM : MR (stR t k) M) : M.length ≤ 2227758 := by
  have h1 : ∀ s ∈ M.map Prod.fst, StB k s := fun s hs => by
    obtain ⟨q, hq, rfl⟩ := List.mem_map.1 hs
    exact stR_b h5 _ _ ((hM.2 q.1).1 ⟨q.2, hq⟩)
  have h2 : ((M.map Prod.fst).map codeS).Nodup := by
    have hn := hM.1
    unfold List.Nodup at hn ⊢
    rw [List.pairwise_map]
    refine List.Pairwise.imp_of_mem (fun {a b} ha hb hab he => hab (code_inj hk (h1 a ha) (h1 b hb) he)) hn
  have := nd_le 2227758 _ h2 fun i hi => by
    obtain ⟨s, hs, rfl⟩ := List.mem_map.1 hi
    exact code_lt hk (h1 s hs)
  simpa using this
theorem lw_lt : ∀ G, G < 6 → ∀ x, x < 32 → x < 2 ^ G → ∀ k ∈ lw x, 0 ≤ k ∧ k < ((G : Nat) : Int) := by decide +kernel
theorem sh_u64 : ∀ n, n < 6 → IntKind.u64.wrap (1 * 2 ^ min n IntKind.u64.bits) = ((2 ^ n : Nat) : Int) := by decide +kernel
end Go.Proofs.YtofbbkacihnjdaaDoor
