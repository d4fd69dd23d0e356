/- A part of the proof that the last text ends: what functions of the program do, told by plain data. -/
import Derived.Test.YtmajlffglplcnaaDoorMF
set_option linter.unusedVariables false
set_option linter.unusedSimpArgs false
namespace Go.Proofs.YtmajlffglplcnaaDoor
open Go Go.E
set_option maxRecDepth 100000
set_option maxHeartbeats 16000000
def rkN (l : List Gam) (i : Int) (k : Nat) : Nat := (List.range k).countP fun (j : Nat) => ahB l (j : Int) i
def rk (l : List Gam) (n : Nat) (i : Int) : Nat := rkN l i n
theorem ahB_irr {l : List Gam} {i : Int} : ahB l i i = false := by simp [ahB]
theorem rk_lt {l : List Gam} {n i : Nat} (h : i < n) : rk l n i < n := by
  unfold rk rkN
  have h1 := List.countP_le_length (p := fun j : Nat => ahB l j i) (l := List.range n)
  rw [List.length_range] at h1
  rcases Nat.lt_or_eq_of_le h1 with h2 | h2
  · exact h2
  · have := List.countP_eq_length (p := fun j : Nat => ahB l j i) (l := List.range n) |>.1 (by rw [h2, List.length_range]) i (List.mem_range.2 h)
    rw [ahB_irr] at this; cases this
def tbN (l : List Gam) (n : Nat) : Nat → List Std
  | 0 => List.replicate n ⟨0, 0, 0, 0, 0⟩
  | k + 1 => (tbN l n k).set (rk l n k) (stF l k)
theorem tbN_len {l : List Gam} {n : Nat} : ∀ k, (tbN l n k).length = n
  | 0 => by simp [tbN]
  | k + 1 => by unfold tbN; rw [List.length_set, tbN_len k]
def tabR (l : List Gam) (n : Nat) : List Std := tbN l n n
def tbR (l : Lea) : List Std × Int := if leaOk l = true then (tabR l.games l.far.length, 0) else ([], 1)
theorem lea_fars {l : Lea} (h : leaOk l = true) : l.far.length ≤ 6 := by
  unfold leaOk at h
  simp only [Bool.and_eq_true, decide_eq_true_eq] at h
  omega
theorem fl_std {l : List Std} : rowsFlat (l.map Std.c) = true := rowsFlat_map fun _ => rfl
theorem std_eq {a b : Std} : (a.team = b.team ∧ a.games = b.games ∧ a.pts = b.pts ∧ a.gf = b.gf ∧ a.ga = b.ga) ↔ a = b := by rw [std_inj]
theorem std_ne {a b : Std} (h : ¬ a = b) : (a.team == b.team && (a.games == b.games && (a.pts == b.pts && (a.gf == b.gf && a.ga == b.ga)))) = false := by
  cases hb : (a.team == b.team && (a.games == b.games && (a.pts == b.pts && (a.gf == b.gf && a.ga == b.ga)))) with
  | false => rfl
  | true => exact absurd (std_eq.1 (by simpa using hb)) h
def O17 : Nat → Sch := fun id => if id = 6 then .one 0 (.one 1 (.one 2 (.one 3 (.one 4 (.one 5 (.one 6 (.one 7 (.one 8 (.done))))))))) else .done
theorem O17_6 : O17 6 = .one 0 (.one 1 (.one 2 (.one 3 (.one 4 (.one 5 (.one 6 (.one 7 (.one 8 (.done))))))))) := rfl
theorem ho17 : Tryd.f17.body.map (okO O17) = some true := by kernel_rfl
def Cf17 : Nat → List AV → (AV → List AV → Sto → Prop) → Kt → List AV → Sto → Prop := fun f args K Q e s => match f with
  | _ => False
def Ct17 : CT := { f := Cf17, y := noYld, z := fun d => false }
theorem ctz17 {d : Nat} : CT.z Ct17 d = (false) := id rfl
theorem Ct17_ok : Ct17.ok Tryd.prog := ok_of_f (fun f args K Q e s h => by
  have h : Cf17 f args K Q e s := h
  unfold Cf17 at h; split at h
  · exact h.elim) (fun _ _ _ _ _ _ _ _ _ h => h)
theorem c17 : callable Tryd.prog 17 = true := by kernel_rfl
theorem pf17 (a b : List Std) (h : a.length ≤ 1000) : PF Tryd.prog 17 [.sl 5 (a.map Std.c), .sl 5 (b.map Std.c)] (fun zz => zz = .ret (.b (decide (a = b)))) := by
  by_cases c0 : (a.length : Int) = b.length
  case neg =>
    have c0b : ((a.length : Int) != (b.length : Int)) = true := by simpa using c0
    rw [decide_eq_false (fun e => c0 (by rw [e]))]
    refine PF_nil (PF_start (O := O17) Ct17_ok hmix ho17 Tryd.func17 c17 rfl Tryd.ntmps17 Tryd.results17 ?_)
    simp (maxSteps := 4000000) +contextual (disch := first | omega | exact qdb_ok (by kernel_rfl) | exact okb_ok (by kernel_rfl)) only [bw1,bw2,bw3,bw4,bw5,bw6,bw7,bc0,bc1,bc2,bc3,bc4,bc5,bc6,bc7,bb0,setPs,AV.owns,AV.datF,AV.frz,AV.cpy,ifV,isEqB,nilV,nilX,AV.isNilS,AV.isNoRows,wk,dclo,datOf,binIs,addF,AV.isPtr,idxV,AV.isSl,AV.isSlice,AV.rows,ps,pv,extV,extS,AV.outs,AV.outF,packD,AV.dl,fieldV,fieldS,AV.cells?,AV.upr,AV.menc,AV.one,D.one,Value.oneCell',tagOf,AV.isApp,strV,strS,bolV,bolS,slcV,AV.isSlD,asrtS,AV.dcells,D.cells?,stcV,stcS,leafOk,eqDs,eqD,packA,D.val?,↓reduceIte,reduceCtorEq,Nat.reduceAdd,Nat.reduceSub,Nat.reduceMul,List.reduceReplicate,Nat.reduceLeDiff,Nat.reduceLT,Nat.reduceBEq,Nat.reduceEqDiff,Int.reduceNeg,Int.reduceEq,Int.reduceLE,Int.reduceLT,tfb,n_retn,n_retr,n_retp,qd_Rn,AV.outN,fl_std,D.flat,D.flats,ctz17,O17_6,c0b]
  have c0b : ((a.length : Int) != (b.length : Int)) = false := by simpa using c0
  obtain ⟨W, hW⟩ : ∃ W, W = decide (a = b) := ⟨_, rfl⟩
  rw [← hW]
  refine PF_nil (PF_start (O := O17) Ct17_ok hmix ho17 Tryd.func17 c17 rfl Tryd.ntmps17 Tryd.results17 ?_)
  simp (maxSteps := 4000000) +contextual (disch := first | omega | exact qdb_ok (by kernel_rfl) | exact okb_ok (by kernel_rfl)) only [bw1,bw2,bw3,bw4,bw5,bw6,bw7,bc0,bc1,bc2,bc3,bc4,bc5,bc6,bc7,bb0,setPs,AV.owns,AV.datF,AV.frz,AV.cpy,ifV,isEqB,nilV,nilX,AV.isNilS,AV.isNoRows,wk,dclo,datOf,binIs,addF,AV.isPtr,idxV,AV.isSl,AV.isSlice,AV.rows,ps,pv,extV,extS,AV.outs,AV.outF,packD,AV.dl,fieldV,fieldS,AV.cells?,AV.upr,AV.menc,AV.one,D.one,Value.oneCell',tagOf,AV.isApp,strV,strS,bolV,bolS,slcV,AV.isSlD,asrtS,AV.dcells,D.cells?,stcV,stcS,leafOk,eqDs,eqD,packA,D.val?,↓reduceIte,reduceCtorEq,Nat.reduceAdd,Nat.reduceSub,Nat.reduceMul,List.reduceReplicate,Nat.reduceLeDiff,Nat.reduceLT,Nat.reduceBEq,Nat.reduceEqDiff,Int.reduceNeg,Int.reduceEq,Int.reduceLE,Int.reduceLT,tfb,n_retn,n_retr,n_retp,qd_Rn,AV.outN,fl_std,D.flat,D.flats,ctz17,O17_6,c0b]
  refine loop_xu (O := O17) (tb := 0) Ct17_ok hmix (by kernel_rfl) (σ := Nat) (fun k => [(5, .i k)]) (fun k => []) (fun k => k ≤ a.length ∧ ∀ q, q < k → a.getD q default = b.getD q default) (fun k => a.length - k) 0 ⟨Nat.zero_le _, fun q hq => by omega⟩ ?_ ?_
  · simp (maxSteps := 4000000) +contextual (disch := first | omega | exact qdb_ok (by kernel_rfl) | exact okb_ok (by kernel_rfl)) only [bw1,bw2,bw3,bw4,bw5,bw6,bw7,bc0,bc1,bc2,bc3,bc4,bc5,bc6,bc7,bb0,setPs,AV.owns,AV.datF,AV.frz,AV.cpy,ifV,isEqB,nilV,nilX,AV.isNilS,AV.isNoRows,wk,dclo,datOf,binIs,addF,AV.isPtr,idxV,AV.isSl,AV.isSlice,AV.rows,ps,pv,extV,extS,AV.outs,AV.outF,packD,AV.dl,fieldV,fieldS,AV.cells?,AV.upr,AV.menc,AV.one,D.one,Value.oneCell',tagOf,AV.isApp,strV,strS,bolV,bolS,slcV,AV.isSlD,asrtS,AV.dcells,D.cells?,stcV,stcS,leafOk,eqDs,eqD,packA,D.val?,↓reduceIte,reduceCtorEq,Nat.reduceAdd,Nat.reduceSub,Nat.reduceMul,List.reduceReplicate,Nat.reduceLeDiff,Nat.reduceLT,Nat.reduceBEq,Nat.reduceEqDiff,Int.reduceNeg,Int.reduceEq,Int.reduceLE,Int.reduceLT,tfb,n_retn,n_retr,n_retp,qd_Rn,AV.outN,fl_std,D.flat,D.flats,ctz17,O17_6,eq_self]
    try rfl
  rintro k ⟨hk, hq⟩
  by_cases hlt : k < a.length
  case neg =>
    obtain rfl : k = a.length := by omega
    have hWt : W = true := by
      rw [hW, decide_eq_true]
      apply List.ext_getElem (by omega)
      intro i h1 h2
      have := hq i h1
      rwa [at_lt h1, at_lt h2] at this
    simp (maxSteps := 4000000) +contextual (disch := first | omega | exact qdb_ok (by kernel_rfl) | exact okb_ok (by kernel_rfl)) only [bw1,bw2,bw3,bw4,bw5,bw6,bw7,bc0,bc1,bc2,bc3,bc4,bc5,bc6,bc7,bb0,setPs,AV.owns,AV.datF,AV.frz,AV.cpy,ifV,isEqB,nilV,nilX,AV.isNilS,AV.isNoRows,wk,dclo,datOf,binIs,addF,AV.isPtr,idxV,AV.isSl,AV.isSlice,AV.rows,ps,pv,extV,extS,AV.outs,AV.outF,packD,AV.dl,fieldV,fieldS,AV.cells?,AV.upr,AV.menc,AV.one,D.one,Value.oneCell',tagOf,AV.isApp,strV,strS,bolV,bolS,slcV,AV.isSlD,asrtS,AV.dcells,D.cells?,stcV,stcS,leafOk,eqDs,eqD,packA,D.val?,↓reduceIte,reduceCtorEq,Nat.reduceAdd,Nat.reduceSub,Nat.reduceMul,List.reduceReplicate,Nat.reduceLeDiff,Nat.reduceLT,Nat.reduceBEq,Nat.reduceEqDiff,Int.reduceNeg,Int.reduceEq,Int.reduceLE,Int.reduceLT,tfb,n_retn,n_retr,n_retp,qd_Rn,AV.outN,fl_std,D.flat,D.flats,ctz17,O17_6,eq_self, Int.lt_irrefl, hWt]
  have hlt' : (k : Int) < a.length := by omega
  have hlt2 : (k : Int) < b.length := by omega
  by_cases d1 : a.getD k default = b.getD k default
  · simp (maxSteps := 4000000) +contextual (disch := first | omega | exact qdb_ok (by kernel_rfl) | exact okb_ok (by kernel_rfl)) only [bw1,bw2,bw3,bw4,bw5,bw6,bw7,bc0,bc1,bc2,bc3,bc4,bc5,bc6,bc7,bb0,setPs,AV.owns,AV.datF,AV.frz,AV.cpy,ifV,isEqB,nilV,nilX,AV.isNilS,AV.isNoRows,wk,dclo,datOf,binIs,addF,AV.isPtr,idxV,AV.isSl,AV.isSlice,AV.rows,ps,pv,extV,extS,AV.outs,AV.outF,packD,AV.dl,fieldV,fieldS,AV.cells?,AV.upr,AV.menc,AV.one,D.one,Value.oneCell',tagOf,AV.isApp,strV,strS,bolV,bolS,slcV,AV.isSlD,asrtS,AV.dcells,D.cells?,stcV,stcS,leafOk,eqDs,eqD,packA,D.val?,↓reduceIte,reduceCtorEq,Nat.reduceAdd,Nat.reduceSub,Nat.reduceMul,List.reduceReplicate,Nat.reduceLeDiff,Nat.reduceLT,Nat.reduceBEq,Nat.reduceEqDiff,Int.reduceNeg,Int.reduceEq,Int.reduceLE,Int.reduceLT,tfb,n_retn,n_retr,n_retp,qd_Rn,AV.outN,fl_std,D.flat,D.flats,ctz17,O17_6,eq_self, hlt', hlt2, d1]
    repeat (refine And.intro (by omega) ?_)
    exact ⟨k + 1, ⟨⟨by omega, fun q hq' => by rcases Nat.lt_succ_iff_lt_or_eq.1 hq' with h' | rfl; exact hq q h'; exact d1⟩, by omega⟩, rfl⟩
  · have hWf : W = false := by
      rw [hW, decide_eq_false]; intro e; exact d1 (by rw [e])
    have hne := std_ne d1
    simp (maxSteps := 4000000) +contextual (disch := first | omega | exact qdb_ok (by kernel_rfl) | exact okb_ok (by kernel_rfl)) only [bw1,bw2,bw3,bw4,bw5,bw6,bw7,bc0,bc1,bc2,bc3,bc4,bc5,bc6,bc7,bb0,setPs,AV.owns,AV.datF,AV.frz,AV.cpy,ifV,isEqB,nilV,nilX,AV.isNilS,AV.isNoRows,wk,dclo,datOf,binIs,addF,AV.isPtr,idxV,AV.isSl,AV.isSlice,AV.rows,ps,pv,extV,extS,AV.outs,AV.outF,packD,AV.dl,fieldV,fieldS,AV.cells?,AV.upr,AV.menc,AV.one,D.one,Value.oneCell',tagOf,AV.isApp,strV,strS,bolV,bolS,slcV,AV.isSlD,asrtS,AV.dcells,D.cells?,stcV,stcS,leafOk,eqDs,eqD,packA,D.val?,↓reduceIte,reduceCtorEq,Nat.reduceAdd,Nat.reduceSub,Nat.reduceMul,List.reduceReplicate,Nat.reduceLeDiff,Nat.reduceLT,Nat.reduceBEq,Nat.reduceEqDiff,Int.reduceNeg,Int.reduceEq,Int.reduceLE,Int.reduceLT,tfb,n_retn,n_retr,n_retp,qd_Rn,AV.outN,fl_std,D.flat,D.flats,ctz17,O17_6,eq_self, hlt', hlt2, hWf, hne]
    try (and_intros <;> first | omega | trivial)
end Go.Proofs.YtmajlffglplcnaaDoor
