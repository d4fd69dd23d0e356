/- A part of the proof that the last text ends: what functions of the program do, told by plain data. -/
import Derived.Test.YtofbbkacihnjdaaDoorHU
import Derived.Test.YtofbbkacihnjdaaDoorHPa
import Derived.Test.YtofbbkacihnjdaaDoorEc
set_option linter.unusedVariables false
set_option linter.unusedSimpArgs false
namespace Go.Proofs.YtofbbkacihnjdaaDoor
open Go Go.E Go.Maps
set_option maxRecDepth 100000
set_option maxHeartbeats 1000000
abbrev plc (b : List Int) : List D := [.sl 1 (b.map ic)]
def chG (t : Tt) (i : Nat) : Int := if i = t.groups.length then -1 else (i : Int)
def plR (t : Tt) : Nat → List Int → List (List Int)
  | 0, b => [b]
  | k + 1, b => (List.range (t.groups.length + 1)).flatMap fun i => if erR t (b ++ [chG t i]) b.length = 0 then plR t k (b ++ [chG t i]) else []
def plN (t : Tt) (k : Nat) (b : List Int) (m : Nat) : List (List Int) := (List.range m).flatMap fun i => if erR t (b ++ [chG t i]) b.length = 0 then plR t k (b ++ [chG t i]) else []
theorem plN_yes {t : Tt} {k m : Nat} {b : List Int} (h : erR t (b ++ [chG t m]) b.length = 0) : plN t k b (m + 1) = plN t k b m ++ plR t k (b ++ [chG t m]) := by
  unfold plN; rw [List.range_succ, List.flatMap_append, List.flatMap_singleton, if_pos h]
theorem plN_no {t : Tt} {k m : Nat} {b : List Int} (h : ¬ erR t (b ++ [chG t m]) b.length = 0) : plN t k b (m + 1) = plN t k b m := by
  unfold plN; rw [List.range_succ, List.flatMap_append, List.flatMap_singleton, if_neg h, List.append_nil]
theorem fm_len {f : Nat → List (List Int)} {c : Nat} : ∀ m, (∀ i, i < m → (f i).length ≤ c) → ((List.range m).flatMap f).length ≤ m * c
  | 0, _ => by simp
  | m + 1, h => by
    have := fm_len (f := f) (c := c) m fun i hi => h i (by omega)
    have hm := h m (by omega)
    rw [List.range_succ, List.flatMap_append, List.flatMap_singleton, List.length_append, Nat.succ_mul]
    omega
theorem plR_len {t : Tt} (h5 : t.groups.length ≤ 5) : ∀ k b, (plR t k b).length ≤ 6 ^ k
  | 0, _ => Nat.le_refl _
  | k + 1, b => by
    have := fm_len (f := fun i => if erR t (b ++ [chG t i]) b.length = 0 then plR t k (b ++ [chG t i]) else []) (c := 6 ^ k) (t.groups.length + 1) fun i _ => by
      split
      · exact plR_len h5 k _
      · exact Nat.zero_le _
    have h2 : (t.groups.length + 1) * 6 ^ k ≤ 6 * 6 ^ k := Nat.mul_le_mul_right _ (by omega)
    rw [Nat.pow_succ, Nat.mul_comm (6 ^ k) 6]
    exact Nat.le_trans this h2
theorem plN_len {t : Tt} (h5 : t.groups.length ≤ 5) {k : Nat} {b : List Int} {m : Nat} : (plN t k b m).length ≤ m * 6 ^ k :=
  fm_len (f := fun i => if erR t (b ++ [chG t i]) b.length = 0 then plR t k (b ++ [chG t i]) else []) (c := 6 ^ k) m fun i _ => by
    split
    · exact plR_len h5 k _
    · exact Nat.zero_le _
abbrev oG (L : List (List Int)) : AV := .own 40999 26 1 (L.map plc)
def Do40 (t : Tt) (k : Nat) (b : List Int) (L : List (List Int)) : Prop :=
  pcall Tryd.prog 40 [.d (.agg t.c), .d (.sl 1 (b.map ic)), oG L] (fun r e1 s1 => e1 = [] ∧ (r = oG (L ++ plR t k b) ∧ s1.get 40999 = none)) (fun x e1 _ => e1 = [] ∧ match x with | .panic _ => False | _ => False) [] ((0, []) :: [])
def sp40 (args : List AV) (K : AV → List AV → Sto → Prop) (e : List AV) (s : Sto) : Prop :=
  ∃ (t : Tt) (k : Nat) (b : List Int) (L : List (List Int)), Do40 t k b L ∧ s.get 40034 = none ∧ (s.frz 40034 3 1).get 40999 = none ∧ args.map (AV.frz 40034 3 1) = [.d (.agg t.c), .d (.sl 1 (b.map ic)), oG L] ∧
    FrameOk [40999] [] [.d (.agg t.c), .d (.sl 1 (b.map ic)), oG L] [] ((e.map (AV.frz 40034 3 1)).map (AV.kill 40999)) (s.frz 40034 3 1) ∧ K (oG (L ++ plR t k b)) ((e.map (AV.frz 40034 3 1)).map (AV.kill 40999)) (s.frz 40034 3 1)
theorem sp40_ok {args : List AV} {K : AV → List AV → Sto → Prop} {Q : Kt} {e : List AV} {s : Sto} (h : sp40 args K e s) : pcall Tryd.prog 40 args K Q e s := by
  obtain ⟨t, k, b, L, h1, h2, h3, h4, h5, h6⟩ := h
  exact pcall_eat 40999 40034 3 1 (by decide) h2 h3 h4 h5 h1 rfl h6
theorem call40x {C : CT} {args e : List AV} {s : Sto} {K : AV → List AV → Sto → Prop} {Q : Kt} {i : At K} {j : At Q} (hC : ∀ {args K Q e s} {i : At K} {j : At Q}, xC C 40 args K Q i j e s = sp40 args K e s) (t : Tt) (k : Nat) (b : List Int) (L : List (List Int)) (h1 : Do40 t k b L) (h2 : s.get 40034 = none) (h3 : (s.frz 40034 3 1).get 40999 = none) (h4 : args.map (AV.frz 40034 3 1) = [.d (.agg t.c), .d (.sl 1 (b.map ic)), oG L])
    (h5 : AV.stays [40999] [] ((e.map (AV.frz 40034 3 1)).map (AV.kill 40999)) ∧ othF [40999] (s.frz 40034 3 1)) (h6 : K (oG (L ++ plR t k b)) ((e.map (AV.frz 40034 3 1)).map (AV.kill 40999)) (s.frz 40034 3 1)) : xC C 40 args K Q i j e s := by
  rw [hC]
  exact ⟨t, k, b, L, h1, h2, h3, h4, { tags := fun g hg => by simp only [List.mem_singleton] at hg; omega, sub := fun g c h => by simp [Sto.get] at h, args := rfl, eo := rfl, av := fun x hx => by (cases hx), slots := h5.1, others := fun g c hc _ => (othF_get h5.2 hc).2 }, h6⟩
end Go.Proofs.YtofbbkacihnjdaaDoor
