/- A part of the proof that the last text ends: what functions of the program do, told by plain data. -/
import Derived.Test.YtofbbkacihnjdaaDoorHKb
set_option linter.unusedVariables false
set_option linter.unusedSimpArgs false
namespace Go.Proofs.YtofbbkacihnjdaaDoor
open Go Go.E Go.Maps
set_option maxRecDepth 100000
set_option maxHeartbeats 1000000
def seR (n : Nat) : Nat → Nat → List Int → List (List Int)
  | 0, _, b => [b]
  | c + 1, f, b => (List.range (n - f)).flatMap fun j => seR n c (f + j + 1) (b ++ [((f + j : Nat) : Int)])
def seN (n c f : Nat) (b : List Int) (m : Nat) : List (List Int) := (List.range m).flatMap fun j => seR n c (f + j + 1) (b ++ [((f + j : Nat) : Int)])
theorem seN_up {n c f m : Nat} {b : List Int} : seN n c f b (m + 1) = seN n c f b m ++ seR n c (f + m + 1) (b ++ [((f + m : Nat) : Int)]) := by
  unfold seN; rw [List.range_succ, List.flatMap_append, List.flatMap_singleton]
theorem seR_len {n : Nat} (h5 : n ≤ 5) : ∀ c f b, (seR n c f b).length ≤ 6 ^ c
  | 0, _, _ => Nat.le_refl _
  | c + 1, f, b => by
    have := fm_len (f := fun j => seR n c (f + j + 1) (b ++ [((f + j : Nat) : Int)])) (c := 6 ^ c) (n - f) fun i _ => seR_len h5 c _ _
    have h2 : (n - f) * 6 ^ c ≤ 6 * 6 ^ c := Nat.mul_le_mul_right _ (by omega)
    rw [Nat.pow_succ, Nat.mul_comm (6 ^ c) 6]
    exact Nat.le_trans this h2
theorem seN_len {n : Nat} (h5 : n ≤ 5) {c f : Nat} {b : List Int} {m : Nat} : (seN n c f b m).length ≤ m * 6 ^ c :=
  fm_len (f := fun j => seR n c (f + j + 1) (b ++ [((f + j : Nat) : Int)])) (c := 6 ^ c) m fun i _ => seR_len h5 c _ _
abbrev oH (L : List (List Int)) : AV := .own 48999 26 1 (L.map plc)
def Do48 (n c f : Nat) (b : List Int) (L : List (List Int)) : Prop :=
  pcall Tryd.prog 48 [.d (.i (f : Int)), .d (.i (n : Int)), .d (.i (c : Int)), .d (.sl 1 (b.map ic)), oH L] (fun r e1 s1 => e1 = [] ∧ (r = oH (L ++ seR n c f b) ∧ s1.get 48999 = none)) (fun x e1 _ => e1 = [] ∧ match x with | .panic _ => False | _ => False) [] ((0, []) :: [])
def sp48 (args : List AV) (K : AV → List AV → Sto → Prop) (e : List AV) (s : Sto) : Prop :=
  ∃ (n c f : Nat) (b : List Int) (L : List (List Int)), Do48 n c f b L ∧ s.get 48030 = none ∧ (s.frz 48030 3 1).get 48999 = none ∧ args.map (AV.frz 48030 3 1) = [.d (.i (f : Int)), .d (.i (n : Int)), .d (.i (c : Int)), .d (.sl 1 (b.map ic)), oH L] ∧
    FrameOk [48999] [] [.d (.i (f : Int)), .d (.i (n : Int)), .d (.i (c : Int)), .d (.sl 1 (b.map ic)), oH L] [] ((e.map (AV.frz 48030 3 1)).map (AV.kill 48999)) (s.frz 48030 3 1) ∧ K (oH (L ++ seR n c f b)) ((e.map (AV.frz 48030 3 1)).map (AV.kill 48999)) (s.frz 48030 3 1)
theorem sp48_ok {args : List AV} {K : AV → List AV → Sto → Prop} {Q : Kt} {e : List AV} {s : Sto} (h : sp48 args K e s) : pcall Tryd.prog 48 args K Q e s := by
  obtain ⟨n, c, f, b, L, h1, h2, h3, h4, h5, h6⟩ := h
  exact pcall_eat 48999 48030 3 1 (by decide) h2 h3 h4 h5 h1 rfl h6
theorem call48x {C : CT} {args e : List AV} {s : Sto} {K : AV → List AV → Sto → Prop} {Q : Kt} {i : At K} {j : At Q} (hC : ∀ {args K Q e s} {i : At K} {j : At Q}, xC C 48 args K Q i j e s = sp48 args K e s) (n c f : Nat) (b : List Int) (L : List (List Int)) (h1 : Do48 n c f b L) (h2 : s.get 48030 = none) (h3 : (s.frz 48030 3 1).get 48999 = none) (h4 : args.map (AV.frz 48030 3 1) = [.d (.i (f : Int)), .d (.i (n : Int)), .d (.i (c : Int)), .d (.sl 1 (b.map ic)), oH L])
    (h5 : AV.stays [48999] [] ((e.map (AV.frz 48030 3 1)).map (AV.kill 48999)) ∧ othF [48999] (s.frz 48030 3 1)) (h6 : K (oH (L ++ seR n c f b)) ((e.map (AV.frz 48030 3 1)).map (AV.kill 48999)) (s.frz 48030 3 1)) : xC C 48 args K Q i j e s := by
  rw [hC]
  exact ⟨n, c, f, b, L, h1, h2, h3, h4, { tags := fun g hg => by simp only [List.mem_singleton] at hg; omega, sub := fun g c h => by simp [Sto.get] at h, args := rfl, eo := rfl, av := fun x hx => by (cases hx), slots := h5.1, others := fun g c hc _ => (othF_get h5.2 hc).2 }, h6⟩
end Go.Proofs.YtofbbkacihnjdaaDoor
