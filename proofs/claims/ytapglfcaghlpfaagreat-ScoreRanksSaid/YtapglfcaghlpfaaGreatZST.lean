/- A part of the proof that the last text ends: what functions of the program do, told by plain data. -/
import Derived.Test.YtapglfcaghlpfaaGreatZSS
set_option linter.unusedVariables false
set_option linter.unusedSimpArgs false
namespace Go.Proofs.YtapglfcaghlpfaaGreat
open Go Go.E Go.Maps
set_option maxRecDepth 100000
set_option maxHeartbeats 16000000
def O103 : Nat → Sch := fun id => if id = 1 then .one 0 (.one 1 (.one 2 (.one 3 (.one 4 (.one 5 (.one 6 (.one 7 (.one 8 (.one 9 (.one 10 (.one 11 (.one 12 (.one 13 (.one 14 (.one 15 (.done)))))))))))))))) else if id = 3 then .one 0 (.one 1 (.one 2 (.one 3 (.one 4 (.one 5 (.one 6 (.one 7 (.one 8 (.one 9 (.one 10 (.one 11 (.one 12 (.one 13 (.one 14 (.one 15 (.done)))))))))))))))) else if id = 5 then .one 0 (.one 1 (.one 2 (.one 3 (.one 4 (.one 5 (.one 6 (.one 7 (.one 8 (.one 9 (.one 10 (.one 11 (.one 12 (.one 13 (.one 14 (.one 15 (.one 16 (.done))))))))))))))))) else if id = 8 then .one 0 (.one 1 (.one 2 (.one 3 (.one 4 (.one 5 (.one 6 (.one 7 (.one 8 (.one 9 (.one 10 (.one 11 (.one 12 (.one 13 (.one 14 (.one 15 (.done)))))))))))))))) else if id = 10 then .one 0 (.one 1 (.one 2 (.one 3 (.one 4 (.one 5 (.one 6 (.one 7 (.one 8 (.one 9 (.one 10 (.one 11 (.one 12 (.one 13 (.one 14 (.one 15 (.done)))))))))))))))) else if id = 13 then .one 0 (.one 1 (.one 2 (.one 3 (.one 4 (.one 5 (.one 6 (.one 7 (.one 8 (.one 9 (.one 10 (.one 11 (.one 12 (.one 13 (.one 14 (.one 15 (.done)))))))))))))))) else if id = 15 then .one 0 (.one 1 (.one 2 (.one 3 (.one 4 (.one 5 (.one 6 (.one 7 (.one 8 (.one 9 (.one 10 (.one 11 (.one 12 (.one 13 (.one 14 (.one 15 (.one 16 (.done))))))))))))))))) else if id = 18 then .one 0 (.one 1 (.one 2 (.one 3 (.one 4 (.one 5 (.one 6 (.one 7 (.one 8 (.one 9 (.one 10 (.one 11 (.one 12 (.one 13 (.one 14 (.one 15 (.done)))))))))))))))) else if id = 21 then .one 0 (.one 1 (.one 2 (.one 3 (.one 4 (.one 5 (.one 6 (.one 7 (.one 8 (.one 9 (.one 10 (.one 11 (.one 12 (.one 13 (.one 14 (.one 15 (.done)))))))))))))))) else .done
theorem O103_1 : O103 1 = .one 0 (.one 1 (.one 2 (.one 3 (.one 4 (.one 5 (.one 6 (.one 7 (.one 8 (.one 9 (.one 10 (.one 11 (.one 12 (.one 13 (.one 14 (.one 15 (.done)))))))))))))))) := rfl
theorem O103_3 : O103 3 = .one 0 (.one 1 (.one 2 (.one 3 (.one 4 (.one 5 (.one 6 (.one 7 (.one 8 (.one 9 (.one 10 (.one 11 (.one 12 (.one 13 (.one 14 (.one 15 (.done)))))))))))))))) := rfl
theorem O103_5 : O103 5 = .one 0 (.one 1 (.one 2 (.one 3 (.one 4 (.one 5 (.one 6 (.one 7 (.one 8 (.one 9 (.one 10 (.one 11 (.one 12 (.one 13 (.one 14 (.one 15 (.one 16 (.done))))))))))))))))) := rfl
theorem O103_8 : O103 8 = .one 0 (.one 1 (.one 2 (.one 3 (.one 4 (.one 5 (.one 6 (.one 7 (.one 8 (.one 9 (.one 10 (.one 11 (.one 12 (.one 13 (.one 14 (.one 15 (.done)))))))))))))))) := rfl
theorem O103_10 : O103 10 = .one 0 (.one 1 (.one 2 (.one 3 (.one 4 (.one 5 (.one 6 (.one 7 (.one 8 (.one 9 (.one 10 (.one 11 (.one 12 (.one 13 (.one 14 (.one 15 (.done)))))))))))))))) := rfl
theorem O103_13 : O103 13 = .one 0 (.one 1 (.one 2 (.one 3 (.one 4 (.one 5 (.one 6 (.one 7 (.one 8 (.one 9 (.one 10 (.one 11 (.one 12 (.one 13 (.one 14 (.one 15 (.done)))))))))))))))) := rfl
theorem O103_15 : O103 15 = .one 0 (.one 1 (.one 2 (.one 3 (.one 4 (.one 5 (.one 6 (.one 7 (.one 8 (.one 9 (.one 10 (.one 11 (.one 12 (.one 13 (.one 14 (.one 15 (.one 16 (.done))))))))))))))))) := rfl
theorem O103_18 : O103 18 = .one 0 (.one 1 (.one 2 (.one 3 (.one 4 (.one 5 (.one 6 (.one 7 (.one 8 (.one 9 (.one 10 (.one 11 (.one 12 (.one 13 (.one 14 (.one 15 (.done)))))))))))))))) := rfl
theorem O103_21 : O103 21 = .one 0 (.one 1 (.one 2 (.one 3 (.one 4 (.one 5 (.one 6 (.one 7 (.one 8 (.one 9 (.one 10 (.one 11 (.one 12 (.one 13 (.one 14 (.one 15 (.done)))))))))))))))) := rfl
theorem ho103 : Tryz.f103.body.map (okO O103) = some true := by kernel_rfl
def Cf103 : Nat → List AV → (AV → List AV → Sto → Prop) → Kt → List AV → Sto → Prop := fun f args K Q e s => match f with
  | 83 => ent83 args K e s
  | _ => False
def Ct103 : CT := { f := Cf103, y := noYld, z := fun d => false }
theorem Ct103_ok : Ct103.ok Tryz.prog := ok_of_f (fun f args K Q e s h => by
  have h : Cf103 f args K Q e s := h
  unfold Cf103 at h; split at h
  · exact ent83_ok h
  · exact h.elim) (fun _ _ _ _ _ _ _ _ _ h => h)
theorem x103_83 {a : Od} {b : Od} {KK : AV → List AV → Sto → Prop} {QQ : Kt} {ii : At KK} {jj : At QQ} {ee : List AV} {ss : Sto} : xC Ct103 83 [.d (.agg (oc a)), .d (.agg (oc b))] KK QQ ii jj ee ss = (KK (.d (.i (cmpI (ky a) (ky b)))) ee ss) := eq83
theorem c103 : callable Tryz.prog 103 = true := by kernel_rfl
theorem pf103 (l : List Od) (a b v : Nat) (h : (a ≤ v ∧ v < b) ∧ b ≤ l.length ∧ l.length ≤ 1000) : PFu Tryz.prog 103 111 7 (l.map oc) [.i (a : Int), .i (b : Int), .i (v : Int), cl67] (fun r x => ∃ (l' : List Od) (m : Nat) (z : Bool), (Swp a b l l' ∧ Prt ky a b m l') ∧ r = .d (.tup [.i (m : Int), .b z]) ∧ x = (l'.map oc)) := by
  obtain ⟨h0, h1, h2⟩ := h
  have hb1 : (b : Int) - 1 = ((b - 1 : Nat) : Int) := by omega
  have hv1 : (v : Int) < l.length := by omega
  have ha1 : (a : Int) < l.length := by omega
  have r1 : (l.map oc).getD a [] = oc (l.getD a default) := row_at (by omega)
  have r2 : (l.map oc).getD v [] = oc (l.getD v default) := row_at (by omega)
  have sw := swr (n := l) (i := a) (j := v) (by omega) (by omega)
  dsimp only [oc] at sw
  have hs0 : Swp a b l (swp l a v) := .one a v (by omega) (by omega) h1
  generalize hn0 : swp l a v = n0 at sw hs0
  have hnl := hs0.len
  refine PFu_start (O := O103) Ct103_ok hmix ho103 Tryz.func103 c103 rfl Tryz.ntmps103 Tryz.results103 ?_
  simp (maxSteps := 4000000) +contextual (disch := first | omega | exact qdb_ok (by kernel_rfl) | exact okb_ok (by kernel_rfl)) only [bw1,bw2,bw3,bw4,bw5,bw6,bw7,bc1,bc2,bc3,bc4,bc5,bc6,binIs,idxV,AV.isSl,AV.rows,ps,pv,AV.upr,AV.menc,D.one,Value.oneCell',AV.dcells,D.cells?,↓reduceIte,reduceCtorEq,Nat.reduceAdd,Nat.reduceSub,List.reduceReplicate,Nat.reduceLeDiff,tfb,gU,O103_1,cl67, hb1, hv1, ha1, r1, r2, sw, List.length_set]
  repeat (refine And.intro (by omega) ?_)
  refine loop_cs (O := O103) (tb := 0) Ct103_ok hmix (by kernel_rfl) (σ := Nat) 0 (fun i => [(12, .i i)]) (fun i => PrtI ky a b i (b - 1) (n0)) (fun i => PrtI ky a b i (b - 1) (n0) ∧ ¬ (i ≤ b - 1 ∧ ky ((n0).getD i default) < ky ((n0).getD a default))) (fun i => b - 1 + 1 - i) (a + 1) (PrtI.start (by omega)) ?_ ?_ ?_
  · simp (maxSteps := 4000000) +contextual (disch := first | omega | exact qdb_ok (by kernel_rfl) | exact okb_ok (by kernel_rfl)) only [bw4,bw6,bc0,bc5,bc6,AV.isNilS,AV.isNoRows,wk,reduceCtorEq]
    try rfl
  · intro i hp
    have hh := hp.1
    by_cases hij : i ≤ b - 1
    · have hij' : (i : Int) ≤ (b - 1 : Nat) := by omega
      have hi1 : (i : Int) < (n0).length := by omega
      have r1 : ((n0).map oc).getD i [] = oc ((n0).getD i default) := row_at (by omega)
      have r2 : ((n0).map oc).getD a [] = oc ((n0).getD a default) := row_at (by omega)
      have ha1 : (a : Int) < (n0).length := by omega
      by_cases hc : ky ((n0).getD i default) < ky ((n0).getD a default)
      · simp (maxSteps := 4000000) +contextual (disch := first | omega | exact qdb_ok (by kernel_rfl) | exact okb_ok (by kernel_rfl)) only [bw1,bw2,bw3,bw4,bw5,bw6,bw7,bc0,bc1,bc2,bc3,bc4,bc5,bc6,AV.isNilS,AV.isNoRows,wk,binIs,idxV,AV.isSl,AV.rows,ps,pv,↓reduceIte,reduceCtorEq,Nat.reduceLeDiff,tfb,qd_M,O103_3,x103_83,eq_self, hij', hi1, ha1, r1, r2, cmp_lt, hc]
        exact ⟨by omega, by omega, i + 1, ⟨hp.up hij hc, by omega⟩, rfl⟩
      · simp (maxSteps := 4000000) +contextual (disch := first | omega | exact qdb_ok (by kernel_rfl) | exact okb_ok (by kernel_rfl)) only [bw1,bw2,bw3,bw4,bw5,bw6,bw7,bc0,bc1,bc2,bc3,bc4,bc5,bc6,AV.isNilS,AV.isNoRows,wk,binIs,idxV,AV.isSl,AV.rows,ps,pv,↓reduceIte,reduceCtorEq,Nat.reduceLeDiff,tfb,m_exit,qd_M,O103_3,x103_83,eq_self, hij', hi1, ha1, r1, r2, cmp_lt, hc]
        exact ⟨by omega, by omega, i, ⟨hp, fun h => hc h.2⟩, rfl⟩
    · have hij' : ¬ (i : Int) ≤ (b - 1 : Nat) := by omega
      simp (maxSteps := 4000000) +contextual (disch := first | omega | exact qdb_ok (by kernel_rfl) | exact okb_ok (by kernel_rfl)) only [bw1,bw2,bw3,bw5,bw6,bw7,bc0,bc1,bc3,bc4,bc5,bc6,AV.isNilS,AV.isNoRows,wk,binIs,↓reduceIte,reduceCtorEq,tfb,m_exit,qd_M,O103_3,eq_self, hij']
      exact ⟨i, ⟨hp, fun h => hij h.1⟩, rfl⟩
  rintro i ⟨hp, hc⟩
  simp (maxSteps := 4000000) +contextual (disch := first | omega | exact qdb_ok (by kernel_rfl) | exact okb_ok (by kernel_rfl)) only [bw1,bw2,bw6,bc0,↓reduceIte]
  refine loop_cs (O := O103) (tb := 0) Ct103_ok hmix (by kernel_rfl) (σ := Nat) 2 (fun j => [(13, .i j)]) (fun j => PrtI ky a b (i) j (n0) ∧ j ≤ b - 1) (fun j => (PrtI ky a b (i) j (n0) ∧ j ≤ b - 1) ∧ ¬ (i ≤ j ∧ ¬ ky ((n0).getD j default) < ky ((n0).getD a default))) (fun j => j) (b - 1) ⟨hp, Nat.le_refl _⟩ ?_ ?_ ?_
  · simp (maxSteps := 4000000) +contextual (disch := first | omega | exact qdb_ok (by kernel_rfl) | exact okb_ok (by kernel_rfl)) only [bw6,bc0,bc5,bc6,AV.isNilS,AV.isNoRows,wk,reduceCtorEq]
    try rfl
  · rintro j ⟨hp, hle⟩
    have hh := hp.1
    by_cases hij : i ≤ j
    · have hij' : ((i : Nat) : Int) ≤ j := by omega
      have hi1 : (j : Int) < (n0).length := by omega
      have r1 : ((n0).map oc).getD j [] = oc ((n0).getD j default) := row_at (by omega)
      have r2 : ((n0).map oc).getD a [] = oc ((n0).getD a default) := row_at (by omega)
      have ha1 : (a : Int) < (n0).length := by omega
      by_cases hc : ky ((n0).getD j default) < ky ((n0).getD a default)
      · simp (maxSteps := 4000000) +contextual (disch := first | omega | exact qdb_ok (by kernel_rfl) | exact okb_ok (by kernel_rfl)) only [bw1,bw2,bw3,bw4,bw5,bw6,bw7,bc0,bc1,bc2,bc3,bc4,bc5,bc6,AV.isNilS,AV.isNoRows,wk,binIs,idxV,AV.isSl,AV.rows,ps,pv,↓reduceIte,reduceCtorEq,Nat.reduceLeDiff,tfb,m_exit,qd_M,O103_5,x103_83,eq_self, hij', hi1, ha1, r1, r2, cmp_lt, hc]
        exact ⟨by omega, by omega, j, ⟨⟨hp, hle⟩, fun h => h.2 hc⟩, rfl⟩
      · simp (maxSteps := 4000000) +contextual (disch := first | omega | exact qdb_ok (by kernel_rfl) | exact okb_ok (by kernel_rfl)) only [bw1,bw2,bw3,bw4,bw5,bw6,bw7,bc0,bc1,bc2,bc3,bc4,bc5,bc6,AV.isNilS,AV.isNoRows,wk,binIs,idxV,AV.isSl,AV.rows,ps,pv,↓reduceIte,reduceCtorEq,Nat.reduceLeDiff,tfb,qd_M,O103_5,x103_83,eq_self, hij', hi1, ha1, r1, r2, cmp_lt, hc]
        exact ⟨by omega, by omega, j - 1, ⟨⟨hp.down hij hc, by omega⟩, by omega⟩, avi (by omega)⟩
    · have hij' : ¬ ((i : Nat) : Int) ≤ j := by omega
      simp (maxSteps := 4000000) +contextual (disch := first | omega | exact qdb_ok (by kernel_rfl) | exact okb_ok (by kernel_rfl)) only [bw1,bw2,bw3,bw5,bw6,bw7,bc0,bc1,bc3,bc4,bc5,bc6,AV.isNilS,AV.isNoRows,wk,binIs,↓reduceIte,reduceCtorEq,tfb,m_exit,qd_M,O103_5,eq_self, hij']
      exact ⟨j, ⟨⟨hp, hle⟩, fun h => hij h.1⟩, rfl⟩
  rintro j ⟨⟨hq, hle⟩, hd⟩
  simp (maxSteps := 4000000) +contextual (disch := first | omega | exact qdb_ok (by kernel_rfl) | exact okb_ok (by kernel_rfl)) only [bw1,bw2,bw3,bw4,bw5,bw6,bw7,bc0,bc1,bc2,bc3,bc4,bc5,bc6,binIs,idxV,AV.isSl,AV.rows,ps,pv,AV.dl,AV.upr,AV.menc,D.one,Value.oneCell',AV.dcells,D.cells?,packA,↓reduceIte,reduceCtorEq,Nat.reduceAdd,Nat.reduceLeDiff,tfb,O103_8,O103_10]
  have hh := hq.1
  have hj1 : (j : Int) < n0.length := by omega
  have hi1 : (i : Int) ≤ n0.length := by omega
  have ha1 : (a : Int) < n0.length := by omega
  have r1 : (n0.map oc).getD a [] = oc (n0.getD a default) := row_at (by omega)
  have r2 : (n0.map oc).getD j [] = oc (n0.getD j default) := row_at (by omega)
  by_cases hij : j < i
  · have hij' : (j : Int) < i := by omega
    have sw := swr (n := n0) (i := j) (j := a) (by omega) (by omega)
    dsimp only [oc] at sw
    have hfin := hq.done hij (by omega)
    have hswf := hs0.step j a (by omega) (by omega) h1
    simp (maxSteps := 4000000) +contextual (disch := first | omega | exact qdb_ok (by kernel_rfl) | exact okb_ok (by kernel_rfl)) only [bw4,bc5,↓reduceIte,hij', hj1, ha1, sw, List.length_set]
    repeat (refine And.intro (by omega) ?_)
    exact ⟨_, j, true, ⟨hswf, hfin⟩, rfl, rfl⟩
  have hij' : ¬ (j : Int) < i := by omega
  have hc' : ¬ ky (n0.getD i default) < ky (n0.getD a default) := fun h => hc ⟨by omega, h⟩
  have hd' : ky (n0.getD j default) < ky (n0.getD a default) := Classical.byContradiction fun h => hd ⟨by omega, h⟩
  have hlt : i < j := by
    rcases Nat.lt_or_ge i j with h | h
    · exact h
    · rw [show j = i by omega] at hd'; exact absurd hd' hc'
  have hi1 : (i : Int) < n0.length := by omega
  have r3 : (n0.map oc).getD i [] = oc (n0.getD i default) := row_at (by omega)
  have sw := swr (n := n0) (i := i) (j := j) (by omega) (by omega)
  dsimp only [oc] at sw
  have hsw := hs0.step i j (by omega) (by omega) h1
  have hpt := hq.swap hlt (by omega) hc' hd'
  generalize hn1 : swp n0 i j = n1 at sw hsw hpt
  have hj2 : (j : Int) - 1 = ((j - 1 : Nat) : Int) := by omega
  simp (maxSteps := 4000000) +contextual (disch := first | omega | exact qdb_ok (by kernel_rfl) | exact okb_ok (by kernel_rfl)) only [bw4,bc5,↓reduceIte,hij', hj1, hi1, sw, List.length_set, hj2]
  repeat (refine And.intro (by omega) ?_)
  clear sw r1 r2 r3 hn1 hn0 hd' hc' hij hij' hj2 hi1 hj1 ha1 hp hq hc hd hh
  refine xl_kg 999999999 0 ?_
  simp (maxSteps := 4000000) +contextual (disch := first | omega | exact qdb_ok (by kernel_rfl) | exact okb_ok (by kernel_rfl)) only [bw6,bc3,bc4,↓reduceIte]
  refine loop_cr (O := O103) (tb := 0) Ct103_ok hmix (by kernel_rfl) (σ := List Od × Nat × Nat) 4 gU (fun x => x.1.map oc) (fun x => [(0, .own gU 111 7 (x.1.map oc)), (12, .i x.2.1), (13, .i x.2.2)]) (fun x => Swp a b l x.1 ∧ PrtI ky a b x.2.1 x.2.2 x.1) (fun x => Swp a b l x.1 ∧ PrtI ky a b x.2.1 x.2.2 x.1 ∧ x.2.2 < x.2.1) (fun x => x.2.2) (n1, i + 1, j - 1) ⟨hsw, hpt⟩ ?_ ?_ ?_
  · simp (maxSteps := 4000000) +contextual (disch := first | omega | exact qdb_ok (by kernel_rfl) | exact okb_ok (by kernel_rfl)) only [bw4,bw5,bw6,bc0,bc3,bc4,bc5,bc6,AV.isNilS,AV.isNoRows,wk,↓reduceIte,reduceCtorEq,gU,bu0]
    try rfl
  · rintro ⟨n, i0, j0⟩ ⟨hs, hp0⟩
    dsimp only at hs hp0 ⊢
    have hnl := hs.len
    simp (maxSteps := 4000000) +contextual (disch := first | omega | exact qdb_ok (by kernel_rfl) | exact okb_ok (by kernel_rfl)) only [bw1,bw2,bw6,bc0,bc4,↓reduceIte,gU,bu0,eq_self]
    refine loop_cs (O := O103) (tb := 0) Ct103_ok hmix (by kernel_rfl) (σ := Nat) 6 (fun i => [(12, .i i)]) (fun i => PrtI ky a b i (j0) (n)) (fun i => PrtI ky a b i (j0) (n) ∧ ¬ (i ≤ j0 ∧ ky ((n).getD i default) < ky ((n).getD a default))) (fun i => j0 + 1 - i) (i0) hp0 ?_ ?_ ?_
    · simp (maxSteps := 4000000) +contextual (disch := first | omega | exact qdb_ok (by kernel_rfl) | exact okb_ok (by kernel_rfl)) only [bw6,bc0,bc5,bc6,AV.isNilS,AV.isNoRows,wk,reduceCtorEq,eq_self]
      try rfl
    · intro i hp
      have hh := hp.1
      by_cases hij : i ≤ j0
      · have hij' : (i : Int) ≤ (j0 : Nat) := by omega
        have hi1 : (i : Int) < (n).length := by omega
        have r1 : ((n).map oc).getD i [] = oc ((n).getD i default) := row_at (by omega)
        have r2 : ((n).map oc).getD a [] = oc ((n).getD a default) := row_at (by omega)
        have ha1 : (a : Int) < (n).length := by omega
        by_cases hc : ky ((n).getD i default) < ky ((n).getD a default)
        · simp (maxSteps := 4000000) +contextual (disch := first | omega | exact qdb_ok (by kernel_rfl) | exact okb_ok (by kernel_rfl)) only [bw1,bw2,bw3,bw4,bw5,bw6,bw7,bc0,bc1,bc2,bc3,bc4,bc5,bc6,AV.isNilS,AV.isNoRows,wk,binIs,idxV,AV.isSl,AV.rows,ps,pv,↓reduceIte,reduceCtorEq,Nat.reduceLeDiff,tfb,qd_M,O103_13,x103_83,eq_self, hij', hi1, ha1, r1, r2, cmp_lt, hc, eq_self]
          exact ⟨by omega, by omega, i + 1, ⟨hp.up hij hc, by omega⟩, rfl⟩
        · simp (maxSteps := 4000000) +contextual (disch := first | omega | exact qdb_ok (by kernel_rfl) | exact okb_ok (by kernel_rfl)) only [bw1,bw2,bw3,bw4,bw5,bw6,bw7,bc0,bc1,bc2,bc3,bc4,bc5,bc6,AV.isNilS,AV.isNoRows,wk,binIs,idxV,AV.isSl,AV.rows,ps,pv,↓reduceIte,reduceCtorEq,Nat.reduceLeDiff,tfb,m_exit,qd_M,O103_13,x103_83,eq_self, hij', hi1, ha1, r1, r2, cmp_lt, hc, eq_self]
          exact ⟨by omega, by omega, i, ⟨hp, fun h => hc h.2⟩, rfl⟩
      · have hij' : ¬ (i : Int) ≤ (j0 : Nat) := by omega
        simp (maxSteps := 4000000) +contextual (disch := first | omega | exact qdb_ok (by kernel_rfl) | exact okb_ok (by kernel_rfl)) only [bw1,bw2,bw3,bw5,bw6,bw7,bc0,bc1,bc3,bc4,bc5,bc6,AV.isNilS,AV.isNoRows,wk,binIs,↓reduceIte,reduceCtorEq,tfb,m_exit,qd_M,O103_13,eq_self, hij', eq_self]
        exact ⟨i, ⟨hp, fun h => hij h.1⟩, rfl⟩
    rintro i ⟨hp, hc⟩
    simp (maxSteps := 4000000) +contextual (disch := first | omega | exact qdb_ok (by kernel_rfl) | exact okb_ok (by kernel_rfl)) only [bw1,bw2,bw6,bc0,↓reduceIte]
    refine loop_cs (O := O103) (tb := 0) Ct103_ok hmix (by kernel_rfl) (σ := Nat) 8 (fun j => [(13, .i j)]) (fun j => PrtI ky a b (i) j (n) ∧ j ≤ j0) (fun j => (PrtI ky a b (i) j (n) ∧ j ≤ j0) ∧ ¬ (i ≤ j ∧ ¬ ky ((n).getD j default) < ky ((n).getD a default))) (fun j => j) (j0) ⟨hp, Nat.le_refl _⟩ ?_ ?_ ?_
    · simp (maxSteps := 4000000) +contextual (disch := first | omega | exact qdb_ok (by kernel_rfl) | exact okb_ok (by kernel_rfl)) only [bw6,bc0,bc5,bc6,AV.isNilS,AV.isNoRows,wk,reduceCtorEq,eq_self]
      try rfl
    · rintro j ⟨hp, hle⟩
      have hh := hp.1
      by_cases hij : i ≤ j
      · have hij' : ((i : Nat) : Int) ≤ j := by omega
        have hi1 : (j : Int) < (n).length := by omega
        have r1 : ((n).map oc).getD j [] = oc ((n).getD j default) := row_at (by omega)
        have r2 : ((n).map oc).getD a [] = oc ((n).getD a default) := row_at (by omega)
        have ha1 : (a : Int) < (n).length := by omega
        by_cases hc : ky ((n).getD j default) < ky ((n).getD a default)
        · simp (maxSteps := 4000000) +contextual (disch := first | omega | exact qdb_ok (by kernel_rfl) | exact okb_ok (by kernel_rfl)) only [bw1,bw2,bw3,bw4,bw5,bw6,bw7,bc0,bc1,bc2,bc3,bc4,bc5,bc6,AV.isNilS,AV.isNoRows,wk,binIs,idxV,AV.isSl,AV.rows,ps,pv,↓reduceIte,reduceCtorEq,Nat.reduceLeDiff,tfb,m_exit,qd_M,O103_15,x103_83,eq_self, hij', hi1, ha1, r1, r2, cmp_lt, hc, eq_self]
          exact ⟨by omega, by omega, j, ⟨⟨hp, hle⟩, fun h => h.2 hc⟩, rfl⟩
        · simp (maxSteps := 4000000) +contextual (disch := first | omega | exact qdb_ok (by kernel_rfl) | exact okb_ok (by kernel_rfl)) only [bw1,bw2,bw3,bw4,bw5,bw6,bw7,bc0,bc1,bc2,bc3,bc4,bc5,bc6,AV.isNilS,AV.isNoRows,wk,binIs,idxV,AV.isSl,AV.rows,ps,pv,↓reduceIte,reduceCtorEq,Nat.reduceLeDiff,tfb,qd_M,O103_15,x103_83,eq_self, hij', hi1, ha1, r1, r2, cmp_lt, hc, eq_self]
          exact ⟨by omega, by omega, j - 1, ⟨⟨hp.down hij hc, by omega⟩, by omega⟩, avi (by omega)⟩
      · have hij' : ¬ ((i : Nat) : Int) ≤ j := by omega
        simp (maxSteps := 4000000) +contextual (disch := first | omega | exact qdb_ok (by kernel_rfl) | exact okb_ok (by kernel_rfl)) only [bw1,bw2,bw3,bw5,bw6,bw7,bc0,bc1,bc3,bc4,bc5,bc6,AV.isNilS,AV.isNoRows,wk,binIs,↓reduceIte,reduceCtorEq,tfb,m_exit,qd_M,O103_15,eq_self, hij', eq_self]
        exact ⟨j, ⟨⟨hp, hle⟩, fun h => hij h.1⟩, rfl⟩
    rintro j ⟨⟨hq, hle⟩, hd⟩
    simp (maxSteps := 4000000) +contextual (disch := first | omega | exact qdb_ok (by kernel_rfl) | exact okb_ok (by kernel_rfl)) only [bw1,bw2,bw3,bw4,bw5,bw6,bw7,bc0,bc1,bc2,bc3,bc4,bc5,bc6,AV.isNilS,AV.isNoRows,wk,binIs,idxV,AV.isSl,AV.rows,ps,pv,AV.upr,AV.menc,AV.dcells,D.cells?,↓reduceIte,reduceCtorEq,Nat.reduceAdd,Nat.reduceLeDiff,Nat.reduceEqDiff,tfb,m_exit,qd_M,bu0,O103_18]
    have hh := hq.1
    by_cases hij : j < i
    · have hij' : (j : Int) < i := by omega
      simp (maxSteps := 4000000) +contextual (disch := first | omega | exact qdb_ok (by kernel_rfl) | exact okb_ok (by kernel_rfl)) only [↓reduceIte, hij']
      exact ⟨(n, i, j), ⟨hs, hq, hij⟩, ⟨rfl, rfl, rfl⟩, rfl⟩
    have hij' : ¬ (j : Int) < i := by omega
    have hc' : ¬ ky (n.getD i default) < ky (n.getD a default) := fun h => hc ⟨by omega, h⟩
    have hd' : ky (n.getD j default) < ky (n.getD a default) := Classical.byContradiction fun h => hd ⟨by omega, h⟩
    have hlt : i < j := by
      rcases Nat.lt_or_ge i j with h | h
      · exact h
      · rw [show j = i by omega] at hd'; exact absurd hd' hc'
    have hi1 : (i : Int) < n.length := by omega
    have hj1 : (j : Int) < n.length := by omega
    have r2 : (n.map oc).getD j [] = oc (n.getD j default) := row_at (by omega)
    have r3 : (n.map oc).getD i [] = oc (n.getD i default) := row_at (by omega)
    have sw := swr (n := n) (i := i) (j := j) (by omega) (by omega)
    dsimp only [oc] at sw
    have hsw := hs.step i j (by omega) (by omega) h1
    have hpt := hq.swap hlt (by omega) hc' hd'
    simp (maxSteps := 4000000) +contextual (disch := first | omega | exact qdb_ok (by kernel_rfl) | exact okb_ok (by kernel_rfl)) only [bw4,bw6,bw7,bc2,bc3,bc5,bc6,D.one,Value.oneCell',↓reduceIte,Nat.reduceAdd,eq_self, hij', hj1, hi1, r2, r3, sw, List.length_set]
    repeat (refine And.intro (by omega) ?_)
    exact ⟨(swp n i j, i + 1, j - 1), ⟨⟨hsw, hpt⟩, by dsimp only; omega⟩, ⟨rfl, rfl, avi (by dsimp only; omega)⟩, rfl⟩
  · rintro ⟨n, i, j⟩ ⟨hs, hp0, hij⟩
    dsimp only at hs hp0 hij ⊢
    have hnl := hs.len
    have hh := hp0.1
    have hj1 : (j : Int) < n.length := by omega
    have ha1 : (a : Int) < n.length := by omega
    have r1 : (n.map oc).getD a [] = oc (n.getD a default) := row_at (by omega)
    have r2 : (n.map oc).getD j [] = oc (n.getD j default) := row_at (by omega)
    have sw := swr (n := n) (i := j) (j := a) (by omega) (by omega)
    dsimp only [oc] at sw
    have hfin := hp0.done hij (by omega)
    have hswf := hs.step j a (by omega) (by omega) h1
    simp (maxSteps := 4000000) +contextual (disch := first | omega | exact qdb_ok (by kernel_rfl) | exact okb_ok (by kernel_rfl)) only [bw1,bw2,bw3,bw4,bw5,bw6,bc0,bc1,bc2,bc3,bc4,bc5,bc6,idxV,AV.isSl,AV.rows,ps,pv,AV.dl,AV.upr,AV.menc,D.one,Value.oneCell',AV.dcells,D.cells?,packA,↓reduceIte,reduceCtorEq,Nat.reduceAdd,Nat.reduceLeDiff,tfb,gU,bu0,O103_21,eq_self, hj1, ha1, r1, r2, sw, List.length_set]
    repeat (refine And.intro (by omega) ?_)
    exact ⟨_, j, false, ⟨hswf, hfin⟩, rfl, rfl⟩
def ent103 (args : List AV) (K : AV → List AV → Sto → Prop) (e : List AV) (s : Sto) : Prop := entU (α := (List Od) × (Nat) × (Nat) × (Nat)) 111 7 (fun aa => (aa.1.map oc)) (fun aa => [.i (aa.2.1 : Int), .i (aa.2.2.1 : Int), .i (aa.2.2.2 : Int), cl67]) (fun aa => (aa.2.1 ≤ aa.2.2.2 ∧ aa.2.2.2 < aa.2.2.1) ∧ aa.2.2.1 ≤ aa.1.length ∧ aa.1.length ≤ 1000) (fun aa r x => ∃ (l' : List Od) (m : Nat) (z : Bool), (Swp aa.2.1 aa.2.2.1 aa.1 l' ∧ Prt ky aa.2.1 aa.2.2.1 m l') ∧ r = .d (.tup [.i (m : Int), .b z]) ∧ x = (l'.map oc)) args K e s
theorem ent103_ok {args : List AV} {K : AV → List AV → Sto → Prop} {Q : Kt} {e : List AV} {s : Sto} (h : ent103 args K e s) : pcall Tryz.prog 103 args K Q e s := entU_ok (fun aa h => pf103 aa.1 aa.2.1 aa.2.2.1 aa.2.2.2 h) (fun aa r x ⟨_, _, _, _, hr, _⟩ => ⟨_, hr⟩) h
theorem eq103 {l : List Od} {a : Nat} {b : Nat} {v : Nat} {gg : Nat} {KK : AV → List AV → Sto → Prop} {ee : List AV} {ss : Sto} : ent103 [.own gg 111 7 (l.map oc), .d (.i (a : Int)), .d (.i (b : Int)), .d (.i (v : Int)), .d (cl67)] KK ee ss = (((a ≤ v ∧ v < b) ∧ b ≤ l.length ∧ l.length ≤ 1000) ∧ upOk gg 111 7 (l.map oc) ee ss ∧ ∀ (l' : List Od) (m : Nat) (z : Bool), (Swp a b l l' ∧ Prt ky a b m l') → KK (.d (.tup [.i (m : Int), .b z])) (ee.map (AV.ups gg (l'.map oc))) (ss.ups gg (l'.map oc))) := by
  unfold ent103
  exact Eq.trans (entU_iff (g := gg) (l, a, b, v) (by intro b h1 h2; first | (simpa [Prod.ext_iff, and_assoc, Int.ofNat_inj, ints_inj, cals_inj, pcs_inj, skas_inj, scos_inj, ska_inj, rul_inj, sco_inj, cal_inj, ods_inj, od_inj] using And.intro h1 h2) | (simp [Prod.ext_iff, and_assoc, Int.ofNat_inj, ints_inj, cals_inj, pcs_inj, skas_inj, scos_inj, ska_inj, rul_inj, sco_inj, cal_inj, ods_inj, od_inj] at h1 h2 ⊢; simp_all)) rfl) (propext ⟨fun ⟨h1, h2, h3⟩ => ⟨h1, h2, fun l' m z hq => h3 _ _ ⟨l', m, z, hq, rfl, rfl⟩⟩, fun ⟨h1, h2, h3⟩ => ⟨h1, h2, fun r x ⟨l', m, z, hq, e1, e2⟩ => by subst e1; subst e2; exact h3 l' m z hq⟩⟩)
end Go.Proofs.YtapglfcaghlpfaaGreat
