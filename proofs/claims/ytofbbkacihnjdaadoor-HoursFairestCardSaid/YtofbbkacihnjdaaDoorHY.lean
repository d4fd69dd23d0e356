/- A part of the proof that the last text ends: what functions of the program do, told by plain data. -/
import Derived.Test.YtofbbkacihnjdaaDoorHX
set_option linter.unusedVariables false
set_option linter.unusedSimpArgs false
namespace Go.Proofs.YtofbbkacihnjdaaDoor
open Go Go.E Go.Maps
set_option maxRecDepth 100000
set_option maxHeartbeats 4000000
def szT (t : Tt) : Prop := t.hours.length ≤ 1000 ∧ t.groups.length ≤ 1000
def sp30 (args : List AV) (K : AV → List AV → Sto → Prop) (e : List AV) (s : Sto) : Prop := args = [] ∧ K (.d (.agg spT.c)) e s
theorem sp30_ok {args : List AV} {K : AV → List AV → Sto → Prop} {Q : Kt} {e : List AV} {s : Sto} (h : sp30 args K e s) : pcall Tryd.prog 30 args K Q e s := by
  obtain ⟨rfl, h⟩ := h
  exact pcall_d (ds := []) pf30 (fun d hd => by cases hd; exact h) (fun c hc => by cases hc)
def sp10 (args : List AV) (K : AV → List AV → Sto → Prop) (e : List AV) (s : Sto) : Prop :=
  ∃ (t : Tt) (p : List Int), (szT t ∧ p.length ≤ 1000) ∧ AV.outs s args = some [.agg t.c, .sl 1 (p.map ic)] ∧ K (.d (.tup [.sl 1 ((ckR t p).1.map ic), .i (ckR t p).2.1, .i (ckR t p).2.2])) e s
theorem sp10_ok {args : List AV} {K : AV → List AV → Sto → Prop} {Q : Kt} {e : List AV} {s : Sto} (h : sp10 args K e s) : pcall Tryd.prog 10 args K Q e s := by
  obtain ⟨t, p, h1, h2, h3⟩ := h
  exact pcall_sn (pf10 t p h1) h2 (fun d hd => by cases hd; exact h3) (fun c hc => by cases hc)
def sp16 (args : List AV) (K : AV → List AV → Sto → Prop) (e : List AV) (s : Sto) : Prop :=
  ∃ t : Tt, szT t ∧ args = [.d (.agg t.c)] ∧ K (.d (.tup [.sl 1 ((frR t).1.map ic), .i (frR t).2])) e s
theorem sp16_ok {args : List AV} {K : AV → List AV → Sto → Prop} {Q : Kt} {e : List AV} {s : Sto} (h : sp16 args K e s) : pcall Tryd.prog 16 args K Q e s := by
  obtain ⟨t, h1, rfl, h3⟩ := h
  exact pcall_d (ds := [.agg t.c]) (pf16 t h1) (fun d hd => by cases hd; exact h3) (fun c hc => by cases hc)
def sp12 (args : List AV) (K : AV → List AV → Sto → Prop) (e : List AV) (s : Sto) : Prop :=
  ∃ (t : Tt) (a b : List Int), (szT t ∧ a.length ≤ 1000 ∧ b.length ≤ 1000) ∧ AV.outs s args = some [.agg t.c, .sl 1 (a.map ic), .sl 1 (b.map ic)] ∧ K (.d (.tup [.i (cpR t a b).1, .i (cpR t a b).2])) e s
theorem sp12_ok {args : List AV} {K : AV → List AV → Sto → Prop} {Q : Kt} {e : List AV} {s : Sto} (h : sp12 args K e s) : pcall Tryd.prog 12 args K Q e s := by
  obtain ⟨t, a, b, h1, h2, h3⟩ := h
  exact pcall_s (pf12 t a b h1) h2 (fun d hd => by cases hd; exact ⟨rfl, h3⟩) (fun c hc => by cases hc)
def sp14 (args : List AV) (K : AV → List AV → Sto → Prop) (e : List AV) (s : Sto) : Prop :=
  ∃ a b : List Int, a.length ≤ 1000 ∧ AV.outs s args = some [.sl 1 (a.map ic), .sl 1 (b.map ic)] ∧ K (.d (.b (decide (a = b)))) e s
theorem sp14_ok {args : List AV} {K : AV → List AV → Sto → Prop} {Q : Kt} {e : List AV} {s : Sto} (h : sp14 args K e s) : pcall Tryd.prog 14 args K Q e s := by
  obtain ⟨a, b, h1, h2, h3⟩ := h
  exact pcall_s (pf14 a b h1) h2 (fun d hd => by cases hd; exact ⟨rfl, h3⟩) (fun c hc => by cases hc)
def sp18 (args : List AV) (K : AV → List AV → Sto → Prop) (e : List AV) (s : Sto) : Prop :=
  ∃ (t : Tt) (p : List Int) (k : Nat), (szT t ∧ p.length ≤ 1000) ∧ k ≠ 0 ∧ s.get k = none ∧ (s.frz k 3 1).get 5000000001 = some [.d (.ptr gtb 0)] ∧ args.map (AV.frz k 3 1) = [.d (.agg t.c), .d (.sl 1 (p.map ic))] ∧ K (.d (.tup [.sl 1 ((hiR t p).1.map ic), .i (hiR t p).2])) (e.map (AV.frz k 3 1)) (s.frz k 3 1)
theorem sp18_ok {args : List AV} {K : AV → List AV → Sto → Prop} {Q : Kt} {e : List AV} {s : Sto} (h : sp18 args K e s) : pcall Tryd.prog 18 args K Q e s := by
  obtain ⟨t, p, k, h1, h2, h3, h4, h5, h6⟩ := h
  refine pcall_frzA 3 1 h2 h3 ?_
  rw [h5]
  exact pcall_dG (ds := [.agg t.c, .sl 1 (p.map ic)]) (V.pf18 t p h1.1 h1.2) h4 (fun d hd => by cases hd; exact h6) (fun c hc => by cases hc)
section
variable {C : CT} {args e : List AV} {s : Sto} {K : AV → List AV → Sto → Prop} {Q : Kt} {i : At K} {j : At Q}
theorem call10x (hC : ∀ {args K Q e s} {i : At K} {j : At Q}, xC C 10 args K Q i j e s = sp10 args K e s) (t : Tt) (p : List Int) (h1 : szT t ∧ p.length ≤ 1000) (h2 : AV.outs s args = some [.agg t.c, .sl 1 (p.map ic)]) (h3 : K (.d (.tup [.sl 1 ((ckR t p).1.map ic), .i (ckR t p).2.1, .i (ckR t p).2.2])) e s) : xC C 10 args K Q i j e s := by
  rw [hC]; exact ⟨t, p, h1, h2, h3⟩
theorem call16x (hC : ∀ {args K Q e s} {i : At K} {j : At Q}, xC C 16 args K Q i j e s = sp16 args K e s) (t : Tt) (h1 : szT t) (h2 : args = [.d (.agg t.c)]) (h3 : K (.d (.tup [.sl 1 ((frR t).1.map ic), .i (frR t).2])) e s) : xC C 16 args K Q i j e s := by
  rw [hC]; exact ⟨t, h1, h2, h3⟩
theorem call12x (hC : ∀ {args K Q e s} {i : At K} {j : At Q}, xC C 12 args K Q i j e s = sp12 args K e s) (t : Tt) (a b : List Int) (h1 : szT t ∧ a.length ≤ 1000 ∧ b.length ≤ 1000) (h2 : AV.outs s args = some [.agg t.c, .sl 1 (a.map ic), .sl 1 (b.map ic)]) (h3 : K (.d (.tup [.i (cpR t a b).1, .i (cpR t a b).2])) e s) : xC C 12 args K Q i j e s := by
  rw [hC]; exact ⟨t, a, b, h1, h2, h3⟩
theorem call14x (hC : ∀ {args K Q e s} {i : At K} {j : At Q}, xC C 14 args K Q i j e s = sp14 args K e s) (a b : List Int) (h1 : a.length ≤ 1000) (h2 : AV.outs s args = some [.sl 1 (a.map ic), .sl 1 (b.map ic)]) (h3 : K (.d (.b (decide (a = b)))) e s) : xC C 14 args K Q i j e s := by
  rw [hC]; exact ⟨a, b, h1, h2, h3⟩
theorem call18x (hC : ∀ {args K Q e s} {i : At K} {j : At Q}, xC C 18 args K Q i j e s = sp18 args K e s) (t : Tt) (p : List Int) (k : Nat) (h1 : szT t ∧ p.length ≤ 1000) (h2 : k ≠ 0) (h3 : s.get k = none) (h4 : (s.frz k 3 1).get 5000000001 = some [.d (.ptr gtb 0)]) (h5 : args.map (AV.frz k 3 1) = [.d (.agg t.c), .d (.sl 1 (p.map ic))]) (h6 : K (.d (.tup [.sl 1 ((hiR t p).1.map ic), .i (hiR t p).2])) (e.map (AV.frz k 3 1)) (s.frz k 3 1)) : xC C 18 args K Q i j e s := by
  rw [hC]; exact ⟨t, p, k, h1, h2, h3, h4, h5, h6⟩
theorem call30x (hC : ∀ {args K Q e s} {i : At K} {j : At Q}, xC C 30 args K Q i j e s = sp30 args K e s) (h2 : args = []) (h3 : K (.d (.agg spT.c)) e s) : xC C 30 args K Q i j e s := by
  rw [hC]; exact ⟨h2, h3⟩
end
def O9 : Nat → Sch := fun id => .done
theorem ho9 : Tryd.f9.body.map (okO O9) = some true := by kernel_rfl
def Cf9 : Nat → List AV → (AV → List AV → Sto → Prop) → Kt → List AV → Sto → Prop := fun f args K Q e s => match f with
  | 10 => sp10 args K e s
  | 12 => sp12 args K e s
  | 14 => sp14 args K e s
  | 16 => sp16 args K e s
  | 18 => sp18 args K e s
  | 30 => sp30 args K e s
  | _ => False
def Ct9 : CT := { f := Cf9, y := noYld, z := fun d => false }
theorem ctz9 {d : Nat} : CT.z Ct9 d = (false) := id rfl
theorem Ct9_ok : Ct9.ok Tryd.prog := ok_of_f (fun f args K Q e s h => by
  have h : Cf9 f args K Q e s := h
  unfold Cf9 at h; split at h
  · exact sp10_ok h
  · exact sp12_ok h
  · exact sp14_ok h
  · exact sp16_ok h
  · exact sp18_ok h
  · exact sp30_ok h
  · exact h.elim) (fun _ _ _ _ _ _ _ _ _ h => h)
theorem c9 : callable Tryd.prog 9 = true := by kernel_rfl
theorem spT_sz : szT spT := by unfold szT; decide
theorem pf9 : PFG Tryd.prog 9 1 gtb [] (fun zz => zz = .ret (.b true)) := by
  refine PFG_nil (PFG_start (O := O9) Ct9_ok hmix ho9 Tryd.func9 c9 rfl Tryd.ntmps9 Tryd.results9 ?_)
  simp (maxSteps := 4000000) +contextual (disch := first | omega | exact qdb_ok (by kernel_rfl) | exact okb_ok (by kernel_rfl)) only [bw1,bw2,bw5,bw6,bc4,bc5,Nat.reduceSub,List.reduceReplicate,Int.reduceNeg]
  refine call30x (C := Ct9) rfl rfl ?_
  simp (maxSteps := 4000000) +contextual (disch := first | omega | exact qdb_ok (by kernel_rfl) | exact okb_ok (by kernel_rfl)) only [bw1,bw2,bw5,bw6,bc2,bc3,bc4,bc5,bc6,AV.dl,AV.cells?,AV.menc,AV.one,D.one,Value.oneCell',AV.dcells,D.cells?,↓reduceIte,reduceCtorEq,Nat.reduceAdd,Nat.reduceMul,List.reduceReplicate,Nat.reduceLeDiff,Nat.reduceLT,Nat.reduceBEq,Nat.reduceEqDiff,Int.reduceNeg,tfb,ctz9]
  refine call10x (C := Ct9) rfl spT [0, 0, -1, 2] ⟨spT_sz, by decide⟩ rfl ?_
  rw [sp_ck1]
  simp (maxSteps := 4000000) +contextual (disch := first | omega | exact qdb_ok (by kernel_rfl) | exact okb_ok (by kernel_rfl)) only [bw1,bw2,bw5,bw6,bc2,bc3,bc4,bc5,bc6,extV,extS,AV.dl,D.one,Value.oneCell',AV.dcells,D.cells?,↓reduceIte,reduceCtorEq,Nat.reduceAdd,Nat.reduceMul,List.reduceReplicate,Nat.reduceLeDiff,Nat.reduceLT,Nat.reduceBEq,Nat.reduceEqDiff,Int.reduceNeg,tfb,ctz9]
  refine call10x (C := Ct9) rfl spT [0, 1, 0, 2] ⟨spT_sz, by decide⟩ rfl ?_
  rw [sp_ck2]
  simp (maxSteps := 4000000) +contextual (disch := first | omega | exact qdb_ok (by kernel_rfl) | exact okb_ok (by kernel_rfl)) only [bw1,bw2,bw5,bw6,bc2,bc3,bc4,bc5,bc6,extV,extS,AV.dl,↓reduceIte,reduceCtorEq,Nat.reduceAdd,Nat.reduceLeDiff,Nat.reduceLT,Int.reduceNeg,tfb]
  refine call16x (C := Ct9) rfl spT spT_sz rfl ?_
  rw [sp_fr]
  simp (maxSteps := 4000000) +contextual (disch := first | omega | exact qdb_ok (by kernel_rfl) | exact okb_ok (by kernel_rfl)) only [bw1,bw2,bw5,bw6,bc2,bc3,bc4,bc5,bc6,extV,extS,AV.dl,D.one,Value.oneCell',AV.dcells,D.cells?,↓reduceIte,reduceCtorEq,Nat.reduceAdd,Nat.reduceMul,List.reduceReplicate,Nat.reduceLeDiff,Nat.reduceLT,Nat.reduceBEq,Nat.reduceEqDiff,Int.reduceNeg,tfb,ctz9]
  refine call12x (C := Ct9) rfl spT [0, 0, -1, 2] [1, 1, 0, 2] ⟨spT_sz, by decide, by decide⟩ rfl ?_
  rw [sp_cp]
  simp (maxSteps := 4000000) +contextual (disch := first | omega | exact qdb_ok (by kernel_rfl) | exact okb_ok (by kernel_rfl)) only [bw1,bw2,bw5,bw6,bc2,bc3,bc4,bc5,bc6,extV,extS,AV.dl,D.one,Value.oneCell',AV.dcells,D.cells?,↓reduceIte,reduceCtorEq,Nat.reduceAdd,Nat.reduceMul,List.reduceReplicate,Nat.reduceLeDiff,Nat.reduceLT,Nat.reduceBEq,Nat.reduceEqDiff,Int.reduceNeg,tfb,ctz9]
  refine call18x (C := Ct9) rfl spT [2, 1, 1] 44 ⟨spT_sz, by decide⟩ (by decide) rfl rfl rfl ?_
  rw [sp_hi]
  simp (maxSteps := 4000000) +contextual (disch := first | omega | exact qdb_ok (by kernel_rfl) | exact okb_ok (by kernel_rfl)) only [bw1,bw2,bw5,bw6,bc3,bc4,bc5,bc6,AV.frz,extV,extS,D.one,Value.oneCell',AV.dcells,D.cells?,↓reduceIte,reduceCtorEq,Nat.reduceAdd,Nat.reduceMul,List.reduceReplicate,Nat.reduceLeDiff,Nat.reduceLT,Nat.reduceBEq,Nat.reduceEqDiff,Int.reduceNeg,tfb,ctz9,Sto.frz, AV.frz]
  refine call14x (C := Ct9) rfl [2, 1, 1] [2, 1, 1] (by decide) rfl ?_
  rw [show decide ([2, 1, 1] = ([2, 1, 1] : List Int)) = true by decide]
  simp (maxSteps := 4000000) +contextual (disch := first | omega | exact qdb_ok (by kernel_rfl) | exact okb_ok (by kernel_rfl)) only [bw1,bw2,bw3,bw5,bw6,bc0,bc1,bc2,bc3,bc4,bc5,bc6,binIs,D.one,Value.oneCell',AV.dcells,D.cells?,↓reduceIte,reduceCtorEq,Nat.reduceAdd,Nat.reduceMul,List.reduceReplicate,Nat.reduceLeDiff,Nat.reduceLT,Nat.reduceBEq,Nat.reduceEqDiff,Int.reduceNeg,tfb,ctz9,bne_self_eq_false]
  refine call14x (C := Ct9) rfl [0, 0, 0, 2] [0, 0, 0, 2] (by decide) rfl ?_
  rw [show decide ([0, 0, 0, 2] = ([0, 0, 0, 2] : List Int)) = true by decide]
  simp (maxSteps := 4000000) +contextual (disch := first | omega | exact qdb_ok (by kernel_rfl) | exact okb_ok (by kernel_rfl)) only [bw1,bw2,bw3,bw5,bw6,bc0,bc1,bc2,bc3,bc4,bc5,bc6,binIs,D.one,Value.oneCell',AV.dcells,D.cells?,↓reduceIte,reduceCtorEq,Nat.reduceAdd,Nat.reduceMul,List.reduceReplicate,Nat.reduceLeDiff,Nat.reduceLT,Nat.reduceBEq,Nat.reduceEqDiff,Int.reduceNeg,tfb,ctz9,bne_self_eq_false]
  refine call14x (C := Ct9) rfl [0, 1, 2] [0, 1, 2] (by decide) rfl ?_
  rw [show decide ([0, 1, 2] = ([0, 1, 2] : List Int)) = true by decide]
  simp (maxSteps := 4000000) +contextual (disch := first | omega | exact qdb_ok (by kernel_rfl) | exact okb_ok (by kernel_rfl)) only [bw1,bw2,bw3,bw5,bw6,bc0,bc1,bc2,bc3,bc4,bc5,binIs,AV.outs,AV.outF,packD,↓reduceIte,Int.reduceNeg,tfb]
  try rfl
end Go.Proofs.YtofbbkacihnjdaaDoor
