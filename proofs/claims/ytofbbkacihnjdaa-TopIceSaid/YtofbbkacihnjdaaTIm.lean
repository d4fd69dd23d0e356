/- A part of the proof that the last text ends: what functions of the program do, told by plain data. -/
import Derived.Test.YtofbbkacihnjdaaTIl
set_option linter.unusedVariables false
set_option linter.unusedSimpArgs false
namespace Go.Proofs.Ytofbbkacihnjdaa.Ic
open Go Go.E Go.Maps
set_option maxRecDepth 100000
set_option maxHeartbeats 16000000
theorem evN_ok {x : Ev} (hx : x.ok) : ∀ k j (s : Rs) {B : Int}, j + k ≤ s.z.length → s.ok B → ((evN x k j s).2 = true → (evN x k j s).1.ok (B + 20000 * k)) ∧ (evN x k j s).1.z.length = s.z.length
  | 0, j, s, B, _, hs => ⟨fun _ => by simpa [evN] using hs, rfl⟩
  | k + 1, j, s, B, hj, hs => by
    rw [evN]
    by_cases h : bZ x s j = true
    · rw [if_pos h]; exact ⟨fun h => (by cases h), sZ_len⟩
    rw [if_neg h]
    have h' : bZ x s j = false := by simpa using h
    obtain ⟨h1, h2⟩ := evN_ok hx k (j + 1) (sZ x s j) (by rw [sZ_len]; omega) (sZ_ok hx hs (by omega) h')
    refine ⟨fun he => (h1 he).up (by push_cast; omega), h2.trans sZ_len⟩
theorem plN_ok {l : List Ev} (hl : ∀ x ∈ l, x.ok) {n : Nat} (hn : n ≤ 24) : ∀ k i (s : Rs) {B : Int}, i + k = l.length → s.z.length = n → s.ok B → ((plN' l k i s).2.2 = 0 → (plN' l k i s).1.ok (B + 480000 * k)) ∧ (plN' l k i s).1.z.length = n
  | 0, i, s, B, _, hz, hs => ⟨fun _ => by simpa [plN'] using hs, hz⟩
  | k + 1, i, s, B, hi, hz, hs => by
    have hx : (l.getD i default).ok := hl _ (by rw [at_lt (by omega)]; exact List.getElem_mem _)
    obtain ⟨h1, h2⟩ := evN_ok hx s.z.length 0 s (by omega) hs
    rw [plN']
    by_cases h : (evN (l.getD i default) s.z.length 0 s).2 = true
    · rw [if_pos h]
      obtain ⟨h3, h4⟩ := plN_ok hl hn k (i + 1) (evN (l.getD i default) s.z.length 0 s).1 (by omega) (h2.trans hz) ((h1 h).up (show _ ≤ B + 480000 by omega))
      exact ⟨fun he => (h3 he).up (by push_cast; omega), h4⟩
    · rw [if_neg h]; exact ⟨fun h => (by cases h), h2.trans hz⟩
theorem py_ok {l : List Ev} (hl : ∀ x ∈ l, x.ok) {s : Rs} {n : Nat} {B : Int} (hn : n ≤ 24) (hz : s.z.length = n) (hs : s.ok B) : ((pyR l s).2.2 = 0 → (pyR l s).1.ok (B + 480000 * l.length)) ∧ (pyR l s).1.z.length = n :=
  plN_ok hl hn l.length 0 s (by omega) hz hs
def outB (least most : Int) (z : Zo) : Bool := decide (z.ice.lo < least) || decide (most < z.ice.hi)
def ixN (least most : Int) (zs : List Zo) : Nat → Nat → Int
  | 0, _ => -1
  | k + 1, i => if outB least most (zs.getD i default) = true then (i : Int) else ixN least most zs k (i + 1)
def ixR (least most : Int) (zs : List Zo) : Int := ixN least most zs zs.length 0
def kpN (day : List Ev) (least most : Int) : Nat → Nat → Rs → Int × Int × Int
  | 0, _, _ => (0, 0, 4)
  | k + 1, d, s => if (pyR day s).2.2 = 0 then (if 0 ≤ ixR least most (pyR day s).1.z then ((d : Int), ixR least most (pyR day s).1.z, 0) else kpN day least most k (d + 1) (pyR day s).1) else (0, 0, (pyR day s).2.2)
def r0 (r : List Zo) : Rs := ⟨r, ⟨0, 0⟩, ⟨0, 0⟩, ⟨0, 0⟩⟩
def kpR (r : List Zo) (day : List Ev) (days : Nat) (least most : Int) : Int × Int × Int := kpN day least most days 0 (r0 r)
abbrev TR : List Nat := [32004, 32021]
theorem mer_eq {T : List Nat} {s1 s2 : Sto} (h : ∀ g, T.contains g = true → s1.get g = s2.get g) : ∀ s : Sto, mer T s1 s = mer T s2 s
  | [] => rfl
  | (g, c) :: r => by
    unfold mer
    rw [mer_eq h r]
    by_cases hg : T.contains g = true
    · rw [if_pos hg, if_pos hg, h g hg]
    · rw [if_neg hg, if_neg hg]
def sp33 (args : List AV) (K : AV → List AV → Sto → Prop) (e : List AV) (s : Sto) : Prop :=
  ∃ (l : List Ev) (st : Rs) (n : Nat) (B : Int), args = [.ref 32004 0, .d (.sl 5 (l.map (Ev.c n)))] ∧ (st.z.length = n ∧ (1 ≤ n ∧ n ≤ 24) ∧ l.length ≤ 256 ∧ (∀ x ∈ l, x.ok) ∧ st.ok B ∧ B + 480000 * l.length ≤ 1000000000) ∧ (s.get 32004 = some st.c ∧ AV.stays TR [.ref 32004 0] e ∧ othL TR [.ref 32004 0] s) ∧
    ∀ s' : Rs, ((pyR l st).2.2 = 0 → s' = (pyR l st).1) → K (.d (.tup [.i ((pyR l st).2.1 : Int), .i (pyR l st).2.2])) e (mer TR [(32004, s'.c)] s)
theorem sp33_ok {args : List AV} {K : AV → List AV → Sto → Prop} {Q : Kt} {e : List AV} {s : Sto} (h : sp33 args K e s) : pcall Try.prog 33 args K Q e s := by
  obtain ⟨l, st, n, B, rfl, ⟨a1, a2, a3, a4, a5, a6⟩, ⟨b1, b2, b3⟩, hK⟩ := h
  refine pcall_B (T := TR) ⟨fun g hg => ?_, fun g c hg => ?_, rfl, rfl, fun x hx => ?_, b2, fun g c hg hT => othL_get b3 hg hT⟩ (play33 a1 a2 a3 a4 a5 a6) fun r s1 hr => ?_
  · simp at hg; omega
  · simp only [Sto.get] at hg
    split at hg
    · rename_i e; subst e; cases hg
      exact ⟨rfl, b1, rfl⟩
    · cases hg
  · simp at hx; subst hx; exact .inr (.inr ⟨rfl, by decide⟩)
  · obtain ⟨rfl, h1, h2, s', h3⟩ := hr
    have key : ∀ c, s1.get 32004 = some c → mer TR s1 s = mer TR [(32004, c)] s := fun c hc => mer_eq (fun g hg => by
      simp at hg
      rcases hg with rfl | rfl
      · rw [hc]; rfl
      · rw [h2]; rfl) s
    by_cases h0 : (pyR l st).2.2 = 0
    · have hg := h1 h0
      refine ⟨⟨rfl, fun g c hT hc => ?_⟩, by rw [key _ hg]; exact hK _ fun _ => rfl⟩
      simp at hT
      rcases hT with rfl | rfl
      · rw [hg] at hc; cases hc; rfl
      · rw [h2] at hc; cases hc
    · refine ⟨⟨rfl, fun g c hT hc => ?_⟩, by rw [key _ h3]; exact hK s' fun h => absurd h h0⟩
      simp at hT
      rcases hT with rfl | rfl
      · rw [h3] at hc; cases hc; rfl
      · rw [h2] at hc; cases hc
end Go.Proofs.Ytofbbkacihnjdaa.Ic
