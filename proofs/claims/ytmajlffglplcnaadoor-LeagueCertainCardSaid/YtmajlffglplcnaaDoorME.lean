/- A part of the proof that the last text ends: what functions of the program do, told by plain data. -/
import Derived.Test.YtmajlffglplcnaaDoorMD
import Derived.Test.YtmajlffglplcnaaDoorEc
set_option linter.unusedVariables false
set_option linter.unusedSimpArgs false
namespace Go.Proofs.YtmajlffglplcnaaDoor
open Go Go.E
set_option maxRecDepth 100000
set_option maxHeartbeats 16000000
structure Std where
  team : Int
  games : Int
  pts : Int
  gf : Int
  ga : Int
  deriving Inhabited, DecidableEq
abbrev Std.c (s : Std) : List D := [.i s.team, .i s.games, .i s.pts, .i s.gf, .i s.ga]
abbrev Std.av (s : Std) : List AV := [.i s.team, .i s.games, .i s.pts, .i s.gf, .i s.ga]
theorem Std.inj {a b : Std} (h : a.c = b.c) : a = b := by cases a; cases b; simp at h; simp [h]
theorem stds_inj {a b : List Std} : (a.map Std.c = b.map Std.c) = (a = b) := inj_map fun _ _ h => Std.inj h
theorem std_inj {a b : Std} : (a.team = b.team ∧ a.games = b.games ∧ a.pts = b.pts ∧ a.gf = b.gf ∧ a.ga = b.ga) = (a = b) := by cases a; cases b; simp
def inG (g : Gam) (t : Int) : Bool := !decide (g.fin = 0) && hasB g t
def winB (g : Gam) (t : Int) : Bool := decide (g.ag < g.hg) == decide (g.home = t)
def ptG (g : Gam) (t : Int) : Int := if inG g t = false then 0 else if g.fin = 1 ∧ winB g t = true then 3 else if g.fin = 2 ∧ winB g t = true then 2 else if g.fin = 2 then 1 else 0
def addG (s : Std) (g : Gam) : Std := if inG g s.team = false then s else if g.home = s.team then ⟨s.team, s.games + 1, s.pts + ptG g s.team, s.gf + g.hg, s.ga + g.ag⟩ else ⟨s.team, s.games + 1, s.pts + ptG g s.team, s.gf + g.ag, s.ga + g.hg⟩
def stN (l : List Gam) (t : Int) (k : Nat) : Std := (l.take k).foldl addG ⟨t, 0, 0, 0, 0⟩
def stF (l : List Gam) (t : Int) : Std := stN l t l.length
theorem stN_zero {l : List Gam} {t : Int} : stN l t 0 = ⟨t, 0, 0, 0, 0⟩ := by simp [stN]
theorem stN_succ {l : List Gam} {t : Int} {k : Nat} (h : k < l.length) : stN l t (k + 1) = addG (stN l t k) (l.getD k default) := by
  unfold stN; rw [take_succ h, List.foldl_append]; rfl
theorem addG_team {s : Std} {g : Gam} : (addG s g).team = s.team := by
  by_cases h : inG g s.team = false
  · unfold addG; rw [if_pos h]
  · unfold addG; rw [if_neg h]; split <;> rfl
theorem stN_team {l : List Gam} {t : Int} : ∀ k, k ≤ l.length → (stN l t k).team = t
  | 0, _ => by rw [stN_zero]
  | k + 1, h => by rw [stN_succ (by omega), addG_team, stN_team k (by omega)]
theorem ptG_b (g : Gam) (t : Int) : 0 ≤ ptG g t ∧ ptG g t ≤ 3 := by
  unfold ptG; repeat' split
  all_goals omega
theorem gm_goals {g : Gam} {n : Int} (h : gmOk g n = true) : g.fin = 0 ∨ ((0 ≤ g.hg ∧ g.hg ≤ 99) ∧ (0 ≤ g.ag ∧ g.ag ≤ 99) ∧ g.hg ≠ g.ag) := by
  unfold gmOk at h
  simp only [Bool.and_eq_true, Bool.or_eq_true, decide_eq_true_eq, inB_iff, Bool.not_eq_true', decide_eq_false_iff_not] at h
  obtain ⟨_, _, _, _, _, h | ⟨h1, h2, h3⟩⟩ := h
  · exact .inl h
  · exact .inr ⟨h1, h2, h3⟩
theorem gm_teams {g : Gam} {n : Int} (h : gmOk g n = true) : (0 ≤ g.home ∧ g.home ≤ n - 1) ∧ (0 ≤ g.away ∧ g.away ≤ n - 1) ∧ g.home ≠ g.away ∧ (0 ≤ g.fin ∧ g.fin ≤ 2) ∧ 0 ≤ g.day ∧ g.day ≤ 16384 := by
  unfold gmOk at h
  simp only [Bool.and_eq_true, Bool.or_eq_true, decide_eq_true_eq, inB_iff, Bool.not_eq_true', decide_eq_false_iff_not] at h
  obtain ⟨h1, h2, h3, h4, h5, _⟩ := h
  exact ⟨h2, h3, h4, h5, h1⟩
def gsOk (l : List Gam) : Prop := l.length ≤ 64 ∧ ∀ g ∈ l, g.fin = 0 ∨ ((0 ≤ g.hg ∧ g.hg ≤ 99) ∧ (0 ≤ g.ag ∧ g.ag ≤ 99) ∧ g.hg ≠ g.ag)
theorem gsOk.at {l : List Gam} (h : gsOk l) {k : Nat} (hk : k < l.length) : (l.getD k default).fin = 0 ∨ ((0 ≤ (l.getD k default).hg ∧ (l.getD k default).hg ≤ 99) ∧ (0 ≤ (l.getD k default).ag ∧ (l.getD k default).ag ≤ 99) ∧ (l.getD k default).hg ≠ (l.getD k default).ag) := by
  rw [at_lt hk]; exact h.2 _ (List.getElem_mem _)
theorem lea_gs {l : Lea} (h : leaOk l = true) : gsOk l.games := by
  refine ⟨lea_games h, fun g hg => ?_⟩
  unfold leaOk at h
  simp only [Bool.and_eq_true] at h
  exact gm_goals (List.all_eq_true.1 h.2.2.2.1 g hg)
def StB (s : Std) (k : Int) : Prop := (0 ≤ s.games ∧ s.games ≤ k) ∧ (0 ≤ s.pts ∧ s.pts ≤ 3 * k) ∧ (0 ≤ s.gf ∧ s.gf ≤ 99 * k) ∧ 0 ≤ s.ga ∧ s.ga ≤ 99 * k
theorem addG_b {s : Std} {g : Gam} {k : Int} (hs : StB s k) (hk : 0 ≤ k) (hg : g.fin = 0 ∨ ((0 ≤ g.hg ∧ g.hg ≤ 99) ∧ (0 ≤ g.ag ∧ g.ag ≤ 99) ∧ g.hg ≠ g.ag)) : StB (addG s g) (k + 1) := by
  unfold StB at *
  have hp := ptG_b g s.team
  unfold addG
  split
  · omega
  · rename_i hi
    have hf : g.fin ≠ 0 := fun h => hi (by simp [inG, h])
    split <;> (dsimp only; omega)
theorem stN_b {l : List Gam} {t : Int} (h : gsOk l) : ∀ k : Nat, k ≤ l.length → StB (stN l t k) k
  | 0, _ => by rw [stN_zero]; unfold StB; simp
  | k + 1, hk => by
    rw [stN_succ (by omega)]
    exact addG_b (stN_b h k (by omega)) (by omega) (h.at (by omega))
def O65 : Nat → Sch := fun id => .done
theorem ho65 : Tryd.f65.body.map (okO O65) = some true := by kernel_rfl
def Cf65 : Nat → List AV → (AV → List AV → Sto → Prop) → Kt → List AV → Sto → Prop := fun f args K Q e s => match f with
  | _ => False
def Ct65 : CT := { f := Cf65, y := noYld, z := fun d => false }
theorem ctz65 {d : Nat} : CT.z Ct65 d = (false) := id rfl
theorem Ct65_ok : Ct65.ok Tryd.prog := ok_of_f (fun f args K Q e s h => by
  have h : Cf65 f args K Q e s := h
  unfold Cf65 at h; split at h
  · exact h.elim) (fun _ _ _ _ _ _ _ _ _ h => h)
theorem c65 : callable Tryd.prog 65 = true := by kernel_rfl
theorem pf65 (g : Gam) (t : Int) : PF Tryd.prog 65 [.agg g.c, .i t] (fun zz => zz = .ret (.i (ptG g t))) := by
  by_cases c1 : inG g t = false
  · have e : ptG g t = 0 := by unfold ptG; rw [if_pos c1]
    rw [e]
    by_cases d1 : g.fin = 0
    · have d1b : (g.fin == 0) = true := by simpa using d1
      refine PF_nil (PF_start (O := O65) Ct65_ok hmix ho65 Tryd.func65 c65 rfl Tryd.ntmps65 Tryd.results65 ?_)
      simp (maxSteps := 4000000) +contextual (disch := first | omega | exact qdb_ok (by kernel_rfl) | exact okb_ok (by kernel_rfl)) only [bw1,bw2,bw3,bw4,bw5,bw6,bw7,bc0,bc1,bc2,bc3,bc4,bc5,bc6,bc7,bb0,setPs,AV.owns,AV.datF,AV.frz,AV.cpy,ifV,isEqB,nilV,nilX,AV.isNilS,AV.isNoRows,wk,dclo,datOf,binIs,addF,AV.isPtr,idxV,AV.isSl,AV.isSlice,AV.rows,ps,pv,extV,extS,AV.outs,AV.outF,packD,AV.dl,fieldV,fieldS,AV.cells?,AV.upr,AV.menc,AV.one,D.one,Value.oneCell',tagOf,AV.isApp,strV,strS,bolV,bolS,slcV,AV.isSlD,asrtS,AV.dcells,D.cells?,stcV,stcS,leafOk,eqDs,eqD,packA,D.val?,↓reduceIte,reduceCtorEq,Nat.reduceAdd,Nat.reduceSub,Nat.reduceMul,List.reduceReplicate,Nat.reduceLeDiff,Nat.reduceLT,Nat.reduceBEq,Nat.reduceEqDiff,Int.reduceNeg,Int.reduceEq,Int.reduceLE,Int.reduceLT,tfb,ctz65,d1b]
    have d1b : (g.fin == 0) = false := by simpa using d1
    simp only [inG, hasB, decide_eq_false d1, Bool.not_false, Bool.true_and, Bool.or_eq_false_iff, decide_eq_false_iff_not] at c1
    have d2b : (g.home != t) = true := by simpa using c1.1
    have d3b : (g.away != t) = true := by simpa using c1.2
    refine PF_nil (PF_start (O := O65) Ct65_ok hmix ho65 Tryd.func65 c65 rfl Tryd.ntmps65 Tryd.results65 ?_)
    simp (maxSteps := 4000000) +contextual (disch := first | omega | exact qdb_ok (by kernel_rfl) | exact okb_ok (by kernel_rfl)) only [bw1,bw2,bw3,bw4,bw5,bw6,bw7,bc0,bc1,bc2,bc3,bc4,bc5,bc6,bc7,bb0,setPs,AV.owns,AV.datF,AV.frz,AV.cpy,ifV,isEqB,nilV,nilX,AV.isNilS,AV.isNoRows,wk,dclo,datOf,binIs,addF,AV.isPtr,idxV,AV.isSl,AV.isSlice,AV.rows,ps,pv,extV,extS,AV.outs,AV.outF,packD,AV.dl,fieldV,fieldS,AV.cells?,AV.upr,AV.menc,AV.one,D.one,Value.oneCell',tagOf,AV.isApp,strV,strS,bolV,bolS,slcV,AV.isSlD,asrtS,AV.dcells,D.cells?,stcV,stcS,leafOk,eqDs,eqD,packA,D.val?,↓reduceIte,reduceCtorEq,Nat.reduceAdd,Nat.reduceSub,Nat.reduceMul,List.reduceReplicate,Nat.reduceLeDiff,Nat.reduceLT,Nat.reduceBEq,Nat.reduceEqDiff,Int.reduceNeg,Int.reduceEq,Int.reduceLE,Int.reduceLT,tfb,ctz65,d1b, d2b, d3b]
  have c1 : inG g t = true := by simpa using c1
  have d1 : ¬ g.fin = 0 := fun h => by simp [inG, h] at c1
  have d1b : (g.fin == 0) = false := by simpa using d1
  have hq : ∀ {P : Prop}, ((g.home != t) = false → P) → ((g.home != t) = true → (g.away != t) = false → P) → P := fun h1 h2 => by
    by_cases h : g.home = t
    · exact h1 (by simpa using h)
    · refine h2 (by simpa using h) ?_
      simp only [inG, hasB, decide_eq_false d1, decide_eq_false h, Bool.not_false, Bool.true_and, Bool.false_or, decide_eq_true_eq] at c1
      simpa using c1
  have e : ptG g t = if g.fin = 1 ∧ winB g t = true then 3 else if g.fin = 2 ∧ winB g t = true then 2 else if g.fin = 2 then 1 else 0 := by unfold ptG; rw [if_neg (by simp [c1])]
  rw [e]
  have hw : (decide (g.ag < g.hg) == (g.home == t)) = winB g t := by unfold winB; rfl
  generalize winB g t = W at hw
  by_cases f1 : g.fin = 1
  · have f1b : (g.fin == 1) = true := by simpa using f1
    have f2b : (g.fin == 2) = false := by rw [f1]; rfl
    cases W <;> refine hq (fun h1 => ?_) (fun h1 h2 => ?_)
    all_goals
      refine PF_nil (PF_start (O := O65) Ct65_ok hmix ho65 Tryd.func65 c65 rfl Tryd.ntmps65 Tryd.results65 ?_)
      first | (simp (maxSteps := 4000000) +contextual (disch := first | omega | exact qdb_ok (by kernel_rfl) | exact okb_ok (by kernel_rfl)) only [bw1,bw2,bw3,bw4,bw5,bw6,bw7,bc0,bc1,bc2,bc3,bc4,bc5,bc6,bc7,bb0,setPs,AV.owns,AV.datF,AV.frz,AV.cpy,ifV,isEqB,nilV,nilX,AV.isNilS,AV.isNoRows,wk,dclo,datOf,binIs,addF,AV.isPtr,idxV,AV.isSl,AV.isSlice,AV.rows,ps,pv,extV,extS,AV.outs,AV.outF,packD,AV.dl,fieldV,fieldS,AV.cells?,AV.upr,AV.menc,AV.one,D.one,Value.oneCell',tagOf,AV.isApp,strV,strS,bolV,bolS,slcV,AV.isSlD,asrtS,AV.dcells,D.cells?,stcV,stcS,leafOk,eqDs,eqD,packA,D.val?,↓reduceIte,reduceCtorEq,Nat.reduceAdd,Nat.reduceSub,Nat.reduceMul,List.reduceReplicate,Nat.reduceLeDiff,Nat.reduceLT,Nat.reduceBEq,Nat.reduceEqDiff,Int.reduceNeg,Int.reduceEq,Int.reduceLE,Int.reduceLT,tfb,ctz65,d1b, h1, hw, f1b, f2b]) | (simp (maxSteps := 4000000) +contextual (disch := first | omega | exact qdb_ok (by kernel_rfl) | exact okb_ok (by kernel_rfl)) only [bw1,bw2,bw3,bw4,bw5,bw6,bw7,bc0,bc1,bc2,bc3,bc4,bc5,bc6,bc7,bb0,setPs,AV.owns,AV.datF,AV.frz,AV.cpy,ifV,isEqB,nilV,nilX,AV.isNilS,AV.isNoRows,wk,dclo,datOf,binIs,addF,AV.isPtr,idxV,AV.isSl,AV.isSlice,AV.rows,ps,pv,extV,extS,AV.outs,AV.outF,packD,AV.dl,fieldV,fieldS,AV.cells?,AV.upr,AV.menc,AV.one,D.one,Value.oneCell',tagOf,AV.isApp,strV,strS,bolV,bolS,slcV,AV.isSlD,asrtS,AV.dcells,D.cells?,stcV,stcS,leafOk,eqDs,eqD,packA,D.val?,↓reduceIte,reduceCtorEq,Nat.reduceAdd,Nat.reduceSub,Nat.reduceMul,List.reduceReplicate,Nat.reduceLeDiff,Nat.reduceLT,Nat.reduceBEq,Nat.reduceEqDiff,Int.reduceNeg,Int.reduceEq,Int.reduceLE,Int.reduceLT,tfb,ctz65,d1b, h1, h2, hw, f1b, f2b])
      try simp [f1]
    all_goals try (simpa using h2)
  have f1b : (g.fin == 1) = false := by simpa using f1
  by_cases f2 : g.fin = 2
  · have f2b : (g.fin == 2) = true := by simpa using f2
    cases W <;> refine hq (fun h1 => ?_) (fun h1 h2 => ?_)
    all_goals
      refine PF_nil (PF_start (O := O65) Ct65_ok hmix ho65 Tryd.func65 c65 rfl Tryd.ntmps65 Tryd.results65 ?_)
      first | (simp (maxSteps := 4000000) +contextual (disch := first | omega | exact qdb_ok (by kernel_rfl) | exact okb_ok (by kernel_rfl)) only [bw1,bw2,bw3,bw4,bw5,bw6,bw7,bc0,bc1,bc2,bc3,bc4,bc5,bc6,bc7,bb0,setPs,AV.owns,AV.datF,AV.frz,AV.cpy,ifV,isEqB,nilV,nilX,AV.isNilS,AV.isNoRows,wk,dclo,datOf,binIs,addF,AV.isPtr,idxV,AV.isSl,AV.isSlice,AV.rows,ps,pv,extV,extS,AV.outs,AV.outF,packD,AV.dl,fieldV,fieldS,AV.cells?,AV.upr,AV.menc,AV.one,D.one,Value.oneCell',tagOf,AV.isApp,strV,strS,bolV,bolS,slcV,AV.isSlD,asrtS,AV.dcells,D.cells?,stcV,stcS,leafOk,eqDs,eqD,packA,D.val?,↓reduceIte,reduceCtorEq,Nat.reduceAdd,Nat.reduceSub,Nat.reduceMul,List.reduceReplicate,Nat.reduceLeDiff,Nat.reduceLT,Nat.reduceBEq,Nat.reduceEqDiff,Int.reduceNeg,Int.reduceEq,Int.reduceLE,Int.reduceLT,tfb,ctz65,d1b, h1, hw, f1b, f2b]) | (simp (maxSteps := 4000000) +contextual (disch := first | omega | exact qdb_ok (by kernel_rfl) | exact okb_ok (by kernel_rfl)) only [bw1,bw2,bw3,bw4,bw5,bw6,bw7,bc0,bc1,bc2,bc3,bc4,bc5,bc6,bc7,bb0,setPs,AV.owns,AV.datF,AV.frz,AV.cpy,ifV,isEqB,nilV,nilX,AV.isNilS,AV.isNoRows,wk,dclo,datOf,binIs,addF,AV.isPtr,idxV,AV.isSl,AV.isSlice,AV.rows,ps,pv,extV,extS,AV.outs,AV.outF,packD,AV.dl,fieldV,fieldS,AV.cells?,AV.upr,AV.menc,AV.one,D.one,Value.oneCell',tagOf,AV.isApp,strV,strS,bolV,bolS,slcV,AV.isSlD,asrtS,AV.dcells,D.cells?,stcV,stcS,leafOk,eqDs,eqD,packA,D.val?,↓reduceIte,reduceCtorEq,Nat.reduceAdd,Nat.reduceSub,Nat.reduceMul,List.reduceReplicate,Nat.reduceLeDiff,Nat.reduceLT,Nat.reduceBEq,Nat.reduceEqDiff,Int.reduceNeg,Int.reduceEq,Int.reduceLE,Int.reduceLT,tfb,ctz65,d1b, h1, h2, hw, f1b, f2b])
      try simp [f2]
    all_goals try (simpa using h2)
  have f2b : (g.fin == 2) = false := by simpa using f2
  refine hq (fun h1 => ?_) (fun h1 h2 => ?_)
  all_goals
    refine PF_nil (PF_start (O := O65) Ct65_ok hmix ho65 Tryd.func65 c65 rfl Tryd.ntmps65 Tryd.results65 ?_)
    first | (simp (maxSteps := 4000000) +contextual (disch := first | omega | exact qdb_ok (by kernel_rfl) | exact okb_ok (by kernel_rfl)) only [bw1,bw2,bw3,bw4,bw5,bw6,bw7,bc0,bc1,bc2,bc3,bc4,bc5,bc6,bc7,bb0,setPs,AV.owns,AV.datF,AV.frz,AV.cpy,ifV,isEqB,nilV,nilX,AV.isNilS,AV.isNoRows,wk,dclo,datOf,binIs,addF,AV.isPtr,idxV,AV.isSl,AV.isSlice,AV.rows,ps,pv,extV,extS,AV.outs,AV.outF,packD,AV.dl,fieldV,fieldS,AV.cells?,AV.upr,AV.menc,AV.one,D.one,Value.oneCell',tagOf,AV.isApp,strV,strS,bolV,bolS,slcV,AV.isSlD,asrtS,AV.dcells,D.cells?,stcV,stcS,leafOk,eqDs,eqD,packA,D.val?,↓reduceIte,reduceCtorEq,Nat.reduceAdd,Nat.reduceSub,Nat.reduceMul,List.reduceReplicate,Nat.reduceLeDiff,Nat.reduceLT,Nat.reduceBEq,Nat.reduceEqDiff,Int.reduceNeg,Int.reduceEq,Int.reduceLE,Int.reduceLT,tfb,ctz65,d1b, h1, hw, f1b, f2b]) | (simp (maxSteps := 4000000) +contextual (disch := first | omega | exact qdb_ok (by kernel_rfl) | exact okb_ok (by kernel_rfl)) only [bw1,bw2,bw3,bw4,bw5,bw6,bw7,bc0,bc1,bc2,bc3,bc4,bc5,bc6,bc7,bb0,setPs,AV.owns,AV.datF,AV.frz,AV.cpy,ifV,isEqB,nilV,nilX,AV.isNilS,AV.isNoRows,wk,dclo,datOf,binIs,addF,AV.isPtr,idxV,AV.isSl,AV.isSlice,AV.rows,ps,pv,extV,extS,AV.outs,AV.outF,packD,AV.dl,fieldV,fieldS,AV.cells?,AV.upr,AV.menc,AV.one,D.one,Value.oneCell',tagOf,AV.isApp,strV,strS,bolV,bolS,slcV,AV.isSlD,asrtS,AV.dcells,D.cells?,stcV,stcS,leafOk,eqDs,eqD,packA,D.val?,↓reduceIte,reduceCtorEq,Nat.reduceAdd,Nat.reduceSub,Nat.reduceMul,List.reduceReplicate,Nat.reduceLeDiff,Nat.reduceLT,Nat.reduceBEq,Nat.reduceEqDiff,Int.reduceNeg,Int.reduceEq,Int.reduceLE,Int.reduceLT,tfb,ctz65,d1b, h1, h2, hw, f1b, f2b])
    try simp [f1, f2]
    try (simpa using h2)
theorem addG_skip {s : Std} {g : Gam} (h : inG g s.team = false) : addG s g = s := by unfold addG; rw [if_pos h]
theorem addG_home {s : Std} {g : Gam} (h : inG g s.team = true) (h1 : g.home = s.team) : addG s g = ⟨s.team, s.games + 1, s.pts + ptG g s.team, s.gf + g.hg, s.ga + g.ag⟩ := by unfold addG; rw [if_neg (by simp [h]), if_pos h1]
theorem addG_away {s : Std} {g : Gam} (h : inG g s.team = true) (h1 : ¬ g.home = s.team) : addG s g = ⟨s.team, s.games + 1, s.pts + ptG g s.team, s.gf + g.ag, s.ga + g.hg⟩ := by unfold addG; rw [if_neg (by simp [h]), if_neg h1]
theorem inG_fin {g : Gam} {t : Int} (h : g.fin = 0) : inG g t = false := by simp [inG, h]
theorem inG_home {g : Gam} {t : Int} (h : ¬ g.fin = 0) (h1 : g.home = t) : inG g t = true := by simp [inG, hasB, h, h1]
theorem inG_away {g : Gam} {t : Int} (h : ¬ g.fin = 0) (h1 : g.away = t) : inG g t = true := by simp [inG, hasB, h, h1]
theorem inG_no {g : Gam} {t : Int} (h1 : ¬ g.home = t) (h2 : ¬ g.away = t) : inG g t = false := by simp [inG, hasB, h1, h2]
def ent65 (args : List AV) (K : AV → List AV → Sto → Prop) (e : List AV) (s : Sto) : Prop := ent (α := (Gam) × (Int)) (fun aa => [.agg aa.1.c, .i aa.2]) (fun aa => True) (fun aa => .i (ptG aa.1 aa.2)) args K e s
theorem ent65_ok {args : List AV} {K : AV → List AV → Sto → Prop} {Q : Kt} {e : List AV} {s : Sto} (h : ent65 args K e s) : pcall Tryd.prog 65 args K Q e s := ent_ok (fun aa h => pf65 aa.1 aa.2) h
theorem eq65 {g : Gam} {t : Int} {KK : AV → List AV → Sto → Prop} {ee : List AV} {ss : Sto} : ent65 [.d (.agg g.c), .d (.i t)] KK ee ss = (KK (.d (.i (ptG g t))) ee ss) := by
  unfold ent65; rw [ent_iff (g, t) (by intro b h; simpa [Prod.ext_iff, and_assoc, Int.ofNat_inj, ints_inj, gams_inj, fars_inj, gam_inj, lea_inj, Int.ofNat_inj, ints_inj, gams_inj, fars_inj, gam_inj, lea_inj, stds_inj, std_inj] using h) rfl]; simp
def O44 : Nat → Sch := fun id => if id = 8 then .one 0 (.one 2 (.one 3 (.alt (.one 1 (.one 4 (.one 5 (.one 6 (.one 7 (.done)))))) (.one 4 (.one 1 (.one 5 (.one 6 (.one 7 (.done))))))))) else .done
theorem O44_8 : O44 8 = .one 0 (.one 2 (.one 3 (.alt (.one 1 (.one 4 (.one 5 (.one 6 (.one 7 (.done)))))) (.one 4 (.one 1 (.one 5 (.one 6 (.one 7 (.done))))))))) := rfl
theorem ho44 : Tryd.f44.body.map (okO O44) = some true := by kernel_rfl
def Cf44 : Nat → List AV → (AV → List AV → Sto → Prop) → Kt → List AV → Sto → Prop := fun f args K Q e s => match f with
  | 65 => ent65 args K e s
  | _ => False
def Ct44 : CT := { f := Cf44, y := noYld, z := fun d => false }
theorem ctz44 {d : Nat} : CT.z Ct44 d = (false) := id rfl
theorem Ct44_ok : Ct44.ok Tryd.prog := ok_of_f (fun f args K Q e s h => by
  have h : Cf44 f args K Q e s := h
  unfold Cf44 at h; split at h
  · exact ent65_ok h
  · exact h.elim) (fun _ _ _ _ _ _ _ _ _ h => h)
theorem x44_65 {g : Gam} {t : Int} {KK : AV → List AV → Sto → Prop} {QQ : Kt} {ii : At KK} {jj : At QQ} {ee : List AV} {ss : Sto} : xC Ct44 65 [.d (.agg g.c), .d (.i t)] KK QQ ii jj ee ss = (KK (.d (.i (ptG g t))) ee ss) := eq65
theorem c44 : callable Tryd.prog 44 = true := by kernel_rfl
theorem pf44 (l : Lea) (t : Int) (h : gsOk l.games) : PF Tryd.prog 44 [.agg l.c, .i t] (fun zz => zz = .ret (.agg (stF l.games t).c)) := by
  have h64 := h.1
  refine PF_nil (PF_start (O := O44) Ct44_ok hmix ho44 Tryd.func44 c44 rfl Tryd.ntmps44 Tryd.results44 ?_)
  simp (maxSteps := 4000000) +contextual (disch := first | omega | exact qdb_ok (by kernel_rfl) | exact okb_ok (by kernel_rfl)) only [bw1,bw2,bw3,bw4,bw5,bw6,bw7,bc0,bc1,bc2,bc3,bc4,bc5,bc6,bc7,bb0,setPs,AV.owns,AV.datF,AV.frz,AV.cpy,ifV,isEqB,nilV,nilX,AV.isNilS,AV.isNoRows,wk,dclo,datOf,binIs,addF,AV.isPtr,idxV,AV.isSl,AV.isSlice,AV.rows,ps,pv,extV,extS,AV.outs,AV.outF,packD,AV.dl,fieldV,fieldS,AV.cells?,AV.upr,AV.menc,AV.one,D.one,Value.oneCell',tagOf,AV.isApp,strV,strS,bolV,bolS,slcV,AV.isSlD,asrtS,AV.dcells,D.cells?,stcV,stcS,leafOk,eqDs,eqD,packA,D.val?,↓reduceIte,reduceCtorEq,Nat.reduceAdd,Nat.reduceSub,Nat.reduceMul,List.reduceReplicate,Nat.reduceLeDiff,Nat.reduceLT,Nat.reduceBEq,Nat.reduceEqDiff,Int.reduceNeg,Int.reduceEq,Int.reduceLE,Int.reduceLT,tfb,ctz44,O44_8,x44_65]
  refine loop_xu (O := O44) (tb := 0) Ct44_ok hmix (by kernel_rfl) (σ := Nat) (fun k => [(6, .i k), (7, .any)]) (fun k => [(6, (stN l.games t k).av)]) (fun k => k ≤ l.games.length) (fun k => l.games.length - k) 0 (Nat.zero_le _) ?_ ?_
  · have hz : stN l.games t 0 = ⟨t, 0, 0, 0, 0⟩ := stN_zero
    simp (maxSteps := 4000000) +contextual (disch := first | omega | exact qdb_ok (by kernel_rfl) | exact okb_ok (by kernel_rfl)) only [bw1,bw2,bw3,bw4,bw5,bw6,bw7,bc0,bc1,bc2,bc3,bc4,bc5,bc6,bc7,bb0,setPs,AV.owns,AV.datF,AV.frz,AV.cpy,ifV,isEqB,nilV,nilX,AV.isNilS,AV.isNoRows,wk,dclo,datOf,binIs,addF,AV.isPtr,idxV,AV.isSl,AV.isSlice,AV.rows,ps,pv,extV,extS,AV.outs,AV.outF,packD,AV.dl,fieldV,fieldS,AV.cells?,AV.upr,AV.menc,AV.one,D.one,Value.oneCell',tagOf,AV.isApp,strV,strS,bolV,bolS,slcV,AV.isSlD,asrtS,AV.dcells,D.cells?,stcV,stcS,leafOk,eqDs,eqD,packA,D.val?,↓reduceIte,reduceCtorEq,Nat.reduceAdd,Nat.reduceSub,Nat.reduceMul,List.reduceReplicate,Nat.reduceLeDiff,Nat.reduceLT,Nat.reduceBEq,Nat.reduceEqDiff,Int.reduceNeg,Int.reduceEq,Int.reduceLE,Int.reduceLT,tfb,ctz44,O44_8,x44_65,eq_self, hz]
    try rfl
  rintro k hk
  have hb := stN_b (t := t) h k hk
  have ht := stN_team (t := t) k hk
  by_cases hlt : k < l.games.length
  case neg =>
    obtain rfl : k = l.games.length := by omega
    simp (maxSteps := 4000000) +contextual (disch := first | omega | exact qdb_ok (by kernel_rfl) | exact okb_ok (by kernel_rfl)) only [bw1,bw2,bw3,bw4,bw5,bw6,bw7,bc0,bc1,bc2,bc3,bc4,bc5,bc6,bc7,bb0,setPs,AV.owns,AV.datF,AV.frz,AV.cpy,ifV,isEqB,nilV,nilX,AV.isNilS,AV.isNoRows,wk,dclo,datOf,binIs,addF,AV.isPtr,idxV,AV.isSl,AV.isSlice,AV.rows,ps,pv,extV,extS,AV.outs,AV.outF,packD,AV.dl,fieldV,fieldS,AV.cells?,AV.upr,AV.menc,AV.one,D.one,Value.oneCell',tagOf,AV.isApp,strV,strS,bolV,bolS,slcV,AV.isSlD,asrtS,AV.dcells,D.cells?,stcV,stcS,leafOk,eqDs,eqD,packA,D.val?,↓reduceIte,reduceCtorEq,Nat.reduceAdd,Nat.reduceSub,Nat.reduceMul,List.reduceReplicate,Nat.reduceLeDiff,Nat.reduceLT,Nat.reduceBEq,Nat.reduceEqDiff,Int.reduceNeg,Int.reduceEq,Int.reduceLE,Int.reduceLT,tfb,ctz44,O44_8,x44_65,eq_self, Int.lt_irrefl]
    exact ⟨rfl, rfl, rfl, rfl, rfl⟩
  have hlt' : (k : Int) < l.games.length := by omega
  have hs := stN_succ (t := t) hlt
  have hgo := h.at hlt
  have hpb := ptG_b (l.games.getD k default) t
  unfold StB at hb
  by_cases d1 : (l.games.getD k default).fin = 0
  · have d1b : ((l.games.getD k default).fin == 0) = true := by simpa using d1
    have hs2 := hs.trans (addG_skip (inG_fin d1))
    simp (maxSteps := 4000000) +contextual (disch := first | omega | exact qdb_ok (by kernel_rfl) | exact okb_ok (by kernel_rfl)) only [bw1,bw2,bw3,bw4,bw5,bw6,bw7,bc0,bc1,bc2,bc3,bc4,bc5,bc6,bc7,bb0,setPs,AV.owns,AV.datF,AV.frz,AV.cpy,ifV,isEqB,nilV,nilX,AV.isNilS,AV.isNoRows,wk,dclo,datOf,binIs,addF,AV.isPtr,idxV,AV.isSl,AV.isSlice,AV.rows,ps,pv,extV,extS,AV.outs,AV.outF,packD,AV.dl,fieldV,fieldS,AV.cells?,AV.upr,AV.menc,AV.one,D.one,Value.oneCell',tagOf,AV.isApp,strV,strS,bolV,bolS,slcV,AV.isSlD,asrtS,AV.dcells,D.cells?,stcV,stcS,leafOk,eqDs,eqD,packA,D.val?,↓reduceIte,reduceCtorEq,Nat.reduceAdd,Nat.reduceSub,Nat.reduceMul,List.reduceReplicate,Nat.reduceLeDiff,Nat.reduceLT,Nat.reduceBEq,Nat.reduceEqDiff,Int.reduceNeg,Int.reduceEq,Int.reduceLE,Int.reduceLT,tfb,ctz44,O44_8,x44_65,eq_self, hlt', d1b]
    repeat (refine And.intro (by omega) ?_)
    exact ⟨k + 1, ⟨by omega, by omega⟩, rfl, by rw [hs2]; exact ⟨rfl, rfl, rfl, rfl, rfl⟩⟩
  have d1b : ((l.games.getD k default).fin == 0) = false := by simpa using d1
  have hgo := hgo.resolve_left d1
  by_cases d2 : (l.games.getD k default).home = t
  · have d2b : ((l.games.getD k default).home == t) = true := by simpa using d2
    have d2c : ((l.games.getD k default).home != t) = false := by simpa using d2
    have hs2 := hs.trans (addG_home (by rw [ht]; exact inG_home d1 d2) (by rw [ht]; exact d2))
    rw [ht] at hs2
    simp (maxSteps := 4000000) +contextual (disch := first | omega | exact qdb_ok (by kernel_rfl) | exact okb_ok (by kernel_rfl)) only [bw1,bw2,bw3,bw4,bw5,bw6,bw7,bc0,bc1,bc2,bc3,bc4,bc5,bc6,bc7,bb0,setPs,AV.owns,AV.datF,AV.frz,AV.cpy,ifV,isEqB,nilV,nilX,AV.isNilS,AV.isNoRows,wk,dclo,datOf,binIs,addF,AV.isPtr,idxV,AV.isSl,AV.isSlice,AV.rows,ps,pv,extV,extS,AV.outs,AV.outF,packD,AV.dl,fieldV,fieldS,AV.cells?,AV.upr,AV.menc,AV.one,D.one,Value.oneCell',tagOf,AV.isApp,strV,strS,bolV,bolS,slcV,AV.isSlD,asrtS,AV.dcells,D.cells?,stcV,stcS,leafOk,eqDs,eqD,packA,D.val?,↓reduceIte,reduceCtorEq,Nat.reduceAdd,Nat.reduceSub,Nat.reduceMul,List.reduceReplicate,Nat.reduceLeDiff,Nat.reduceLT,Nat.reduceBEq,Nat.reduceEqDiff,Int.reduceNeg,Int.reduceEq,Int.reduceLE,Int.reduceLT,tfb,ctz44,O44_8,x44_65,eq_self, hlt', d1b, d2b, d2c]
    repeat (refine And.intro (by omega) ?_)
    refine ⟨k + 1, ⟨by omega, by omega⟩, ?_⟩
    rw [hs2]
    and_intros <;> first | rfl | rw [ht]
  have d2b : ((l.games.getD k default).home == t) = false := by simpa using d2
  have d2c : ((l.games.getD k default).home != t) = true := by simpa using d2
  by_cases d3 : (l.games.getD k default).away = t
  · have d3c : ((l.games.getD k default).away != t) = false := by simpa using d3
    have hs2 := hs.trans (addG_away (by rw [ht]; exact inG_away d1 d3) (by rw [ht]; exact d2))
    rw [ht] at hs2
    simp (maxSteps := 4000000) +contextual (disch := first | omega | exact qdb_ok (by kernel_rfl) | exact okb_ok (by kernel_rfl)) only [bw1,bw2,bw3,bw4,bw5,bw6,bw7,bc0,bc1,bc2,bc3,bc4,bc5,bc6,bc7,bb0,setPs,AV.owns,AV.datF,AV.frz,AV.cpy,ifV,isEqB,nilV,nilX,AV.isNilS,AV.isNoRows,wk,dclo,datOf,binIs,addF,AV.isPtr,idxV,AV.isSl,AV.isSlice,AV.rows,ps,pv,extV,extS,AV.outs,AV.outF,packD,AV.dl,fieldV,fieldS,AV.cells?,AV.upr,AV.menc,AV.one,D.one,Value.oneCell',tagOf,AV.isApp,strV,strS,bolV,bolS,slcV,AV.isSlD,asrtS,AV.dcells,D.cells?,stcV,stcS,leafOk,eqDs,eqD,packA,D.val?,↓reduceIte,reduceCtorEq,Nat.reduceAdd,Nat.reduceSub,Nat.reduceMul,List.reduceReplicate,Nat.reduceLeDiff,Nat.reduceLT,Nat.reduceBEq,Nat.reduceEqDiff,Int.reduceNeg,Int.reduceEq,Int.reduceLE,Int.reduceLT,tfb,ctz44,O44_8,x44_65,eq_self, hlt', d1b, d2b, d2c, d3c]
    repeat (refine And.intro (by omega) ?_)
    refine ⟨k + 1, ⟨by omega, by omega⟩, ?_⟩
    rw [hs2]
    and_intros <;> first | rfl | rw [ht]
  have d3c : ((l.games.getD k default).away != t) = true := by simpa using d3
  have hs2 := hs.trans (addG_skip (by rw [ht]; exact inG_no d2 d3))
  simp (maxSteps := 4000000) +contextual (disch := first | omega | exact qdb_ok (by kernel_rfl) | exact okb_ok (by kernel_rfl)) only [bw1,bw2,bw3,bw4,bw5,bw6,bw7,bc0,bc1,bc2,bc3,bc4,bc5,bc6,bc7,bb0,setPs,AV.owns,AV.datF,AV.frz,AV.cpy,ifV,isEqB,nilV,nilX,AV.isNilS,AV.isNoRows,wk,dclo,datOf,binIs,addF,AV.isPtr,idxV,AV.isSl,AV.isSlice,AV.rows,ps,pv,extV,extS,AV.outs,AV.outF,packD,AV.dl,fieldV,fieldS,AV.cells?,AV.upr,AV.menc,AV.one,D.one,Value.oneCell',tagOf,AV.isApp,strV,strS,bolV,bolS,slcV,AV.isSlD,asrtS,AV.dcells,D.cells?,stcV,stcS,leafOk,eqDs,eqD,packA,D.val?,↓reduceIte,reduceCtorEq,Nat.reduceAdd,Nat.reduceSub,Nat.reduceMul,List.reduceReplicate,Nat.reduceLeDiff,Nat.reduceLT,Nat.reduceBEq,Nat.reduceEqDiff,Int.reduceNeg,Int.reduceEq,Int.reduceLE,Int.reduceLT,tfb,ctz44,O44_8,x44_65,eq_self, hlt', d1b, d2b, d2c, d3c]
  repeat (refine And.intro (by omega) ?_)
  exact ⟨k + 1, ⟨by omega, by omega⟩, rfl, by rw [hs2]; exact ⟨rfl, rfl, rfl, rfl, rfl⟩⟩
def ent44 (args : List AV) (K : AV → List AV → Sto → Prop) (e : List AV) (s : Sto) : Prop := ent (α := (Lea) × (Int)) (fun aa => [.agg aa.1.c, .i aa.2]) (fun aa => gsOk aa.1.games) (fun aa => .agg (stF aa.1.games aa.2).c) args K e s
theorem ent44_ok {args : List AV} {K : AV → List AV → Sto → Prop} {Q : Kt} {e : List AV} {s : Sto} (h : ent44 args K e s) : pcall Tryd.prog 44 args K Q e s := ent_ok (fun aa h => pf44 aa.1 aa.2 h) h
theorem eq44 {l : Lea} {t : Int} {KK : AV → List AV → Sto → Prop} {ee : List AV} {ss : Sto} : ent44 [.d (.agg l.c), .d (.i t)] KK ee ss = ((gsOk l.games) ∧ KK (.d (.agg (stF l.games t).c)) ee ss) := by
  unfold ent44; rw [ent_iff (l, t) (by intro b h; simpa [Prod.ext_iff, and_assoc, Int.ofNat_inj, ints_inj, gams_inj, fars_inj, gam_inj, lea_inj, Int.ofNat_inj, ints_inj, gams_inj, fars_inj, gam_inj, lea_inj, stds_inj, std_inj] using h) rfl]; simp
end Go.Proofs.YtmajlffglplcnaaDoor
