/- A part of the proof that the last text ends: what functions of the program do, told by plain data. -/
import Derived.Test.YtmajlffglplcnaaDoorNC
import Derived.Test.YtmajlffglplcnaaDoorNG
set_option linter.unusedVariables false
set_option linter.unusedSimpArgs false
namespace Go.Proofs.YtmajlffglplcnaaDoor
open Go Go.E Go.Maps
set_option maxRecDepth 100000
set_option maxHeartbeats 16000000
def sp13 (args : List AV) (K : AV → List AV → Sto → Prop) (e : List AV) (s : Sto) : Prop :=
  ∃ (l : Lea) (t : Int), l.far.length ≤ 1000 ∧ AV.outs s args = some [.agg l.c, .i t] ∧ K (.d (.tup [.i (trR l t).1, .i (trR l t).2])) e s
theorem sp13_ok {args : List AV} {K : AV → List AV → Sto → Prop} {Q : Kt} {e : List AV} {s : Sto} (h : sp13 args K e s) : pcall Tryd.prog 13 args K Q e s := by
  obtain ⟨l, t, h1, h2, h3⟩ := h
  exact pcall_s (pf13 l t h1) h2 (fun d hd => by cases hd; exact ⟨rfl, h3⟩) (fun c hc => by cases hc)
theorem lg_no4 {l : Lea} (h : ¬ lgB l 4 = true) (hl : leaOk l = true) : openN l.games l.games.length ≤ 4 := by
  have h8 : openN l.games l.games.length ≤ 8 := by
    unfold leaOk at hl
    simp only [Bool.and_eq_true, decide_eq_true_eq] at hl
    omega
  have e : opN l l.games.length = (openN l.games l.games.length : Int) := by
    unfold opN
    rw [show lfN l.games (-1) l.games.length = lfF l.games (-1) from rfl]
    unfold lfF
    rw [lf_open]
  unfold lgB at h
  split at h
  · exact absurd rfl h
  · split at h
    · exact absurd rfl h
    · rw [e] at h
      simp only [Bool.and_eq_true, decide_eq_true_eq, not_and] at h
      omega
def onF (l : Lea) (t : Int) : Gam := (onG l t l.games.length).getD 0 default
theorem onF_home {l : Lea} (h : leaOk l = true) {t : Int} (hz : 0 < (onG l t l.games.length).length) : 0 ≤ (onF l t).home ∧ (onF l t).home < l.far.length := by
  obtain ⟨j, hj, hje⟩ := List.getElem_of_mem (onG_mem (l := l) (t := t) (k := l.games.length) (g := onF l t) (by unfold onF; rw [at_lt hz]; exact List.getElem_mem _)).1
  have hgm := gm_teams (lea_gm h hj)
  rw [at_lt hj, hje] at hgm
  omega
theorem onF_row {l : Lea} {t : Int} (hz : 0 < (onG l t l.games.length).length) : ((onG l t l.games.length).map Gam.c).getD 0 [] = Gam.c (onF l t) := Go.E.row_at hz
theorem trF_2f {l : Lea} {t : Int} (hz : 0 < (onG l t l.games.length).length) : trF (lea2 l t) t = 2 * trF l t - fr l.far (trN l t l.games.length).2 t - fr l.far t (onF l t).home + fr l.far (trN l t l.games.length).2 (onF l t).home := trF_2c (fun h => by rw [h] at hz; exact absurd hz (by simp))
theorem trF_b {l : Lea} (h : leaOk l = true) {t : Int} (ht : 0 ≤ t ∧ t < l.far.length) : 0 ≤ trF l t ∧ trF l t ≤ 100000 * 70 := by
  have h1 := trN_b h ht l.games.length (Nat.le_refl _)
  have h2 := fr_b h h1.2 ht
  have h3 := lea_games h
  unfold trF
  omega
def O8 : Nat → Sch := fun id => if id = 8 then .alt (.one 0 (.alt (.one 1 (.alt (.one 2 (.one 3 (.one 4 (.one 5 (.done))))) (.one 3 (.one 2 (.one 4 (.one 5 (.done))))))) (.alt (.one 2 (.alt (.one 1 (.one 3 (.one 4 (.one 5 (.done))))) (.one 3 (.alt (.one 1 (.one 4 (.one 5 (.done)))) (.one 4 (.one 1 (.one 5 (.done)))))))) (.one 3 (.alt (.one 1 (.one 2 (.one 4 (.one 5 (.done))))) (.one 2 (.alt (.one 1 (.one 4 (.one 5 (.done)))) (.one 4 (.one 1 (.one 5 (.done))))))))))) (.alt (.one 1 (.alt (.one 0 (.alt (.one 2 (.one 3 (.one 4 (.one 5 (.done))))) (.one 3 (.one 2 (.one 4 (.one 5 (.done))))))) (.alt (.one 2 (.alt (.one 0 (.one 3 (.one 4 (.one 5 (.done))))) (.one 3 (.one 0 (.one 4 (.one 5 (.done))))))) (.one 3 (.alt (.one 0 (.one 2 (.one 4 (.one 5 (.done))))) (.one 2 (.one 0 (.one 4 (.one 5 (.done)))))))))) (.alt (.one 2 (.alt (.one 0 (.alt (.one 1 (.one 3 (.one 4 (.one 5 (.done))))) (.one 3 (.alt (.one 1 (.one 4 (.one 5 (.done)))) (.one 4 (.one 1 (.one 5 (.done)))))))) (.alt (.one 1 (.alt (.one 0 (.one 3 (.one 4 (.one 5 (.done))))) (.one 3 (.one 0 (.one 4 (.one 5 (.done))))))) (.one 3 (.one 0 (.alt (.one 1 (.one 4 (.one 5 (.done)))) (.one 4 (.one 1 (.one 5 (.done)))))))))) (.one 3 (.alt (.one 0 (.alt (.one 1 (.one 2 (.one 4 (.one 5 (.done))))) (.one 2 (.alt (.one 1 (.one 4 (.one 5 (.done)))) (.one 4 (.one 1 (.one 5 (.done)))))))) (.alt (.one 1 (.alt (.one 0 (.one 2 (.one 4 (.one 5 (.done))))) (.one 2 (.one 0 (.one 4 (.one 5 (.done))))))) (.one 2 (.one 0 (.alt (.one 1 (.one 4 (.one 5 (.done)))) (.one 4 (.one 1 (.one 5 (.done)))))))))))) else if id = 16 then .one 0 (.one 1 (.one 2 (.one 3 (.one 4 (.one 5 (.one 6 (.one 7 (.one 8 (.one 9 (.one 10 (.one 11 (.done)))))))))))) else if id = 19 then .one 1 (.one 4 (.alt (.one 0 (.one 2 (.alt (.one 3 (.one 5 (.one 6 (.one 7 (.one 8 (.done)))))) (.one 5 (.one 3 (.one 6 (.one 7 (.one 8 (.done))))))))) (.alt (.one 2 (.alt (.one 0 (.alt (.one 3 (.one 5 (.one 6 (.one 7 (.one 8 (.done)))))) (.one 5 (.one 3 (.one 6 (.one 7 (.one 8 (.done)))))))) (.one 5 (.one 0 (.one 3 (.one 6 (.one 7 (.one 8 (.done))))))))) (.one 5 (.alt (.one 0 (.one 2 (.one 3 (.one 6 (.one 7 (.one 8 (.done))))))) (.one 2 (.one 0 (.one 3 (.one 6 (.one 7 (.one 8 (.done)))))))))))) else if id = 27 then .one 0 (.one 1 (.one 2 (.one 3 (.one 4 (.one 5 (.one 6 (.one 7 (.one 8 (.one 9 (.one 10 (.one 11 (.one 12 (.one 13 (.one 14 (.one 15 (.one 16 (.one 17 (.one 18 (.one 19 (.one 20 (.one 21 (.one 22 (.one 23 (.one 24 (.one 25 (.one 26 (.one 27 (.one 28 (.one 29 (.one 30 (.one 31 (.one 32 (.one 33 (.one 34 (.done))))))))))))))))))))))))))))))))))) else .done
theorem O8_8 : O8 8 = .alt (.one 0 (.alt (.one 1 (.alt (.one 2 (.one 3 (.one 4 (.one 5 (.done))))) (.one 3 (.one 2 (.one 4 (.one 5 (.done))))))) (.alt (.one 2 (.alt (.one 1 (.one 3 (.one 4 (.one 5 (.done))))) (.one 3 (.alt (.one 1 (.one 4 (.one 5 (.done)))) (.one 4 (.one 1 (.one 5 (.done)))))))) (.one 3 (.alt (.one 1 (.one 2 (.one 4 (.one 5 (.done))))) (.one 2 (.alt (.one 1 (.one 4 (.one 5 (.done)))) (.one 4 (.one 1 (.one 5 (.done))))))))))) (.alt (.one 1 (.alt (.one 0 (.alt (.one 2 (.one 3 (.one 4 (.one 5 (.done))))) (.one 3 (.one 2 (.one 4 (.one 5 (.done))))))) (.alt (.one 2 (.alt (.one 0 (.one 3 (.one 4 (.one 5 (.done))))) (.one 3 (.one 0 (.one 4 (.one 5 (.done))))))) (.one 3 (.alt (.one 0 (.one 2 (.one 4 (.one 5 (.done))))) (.one 2 (.one 0 (.one 4 (.one 5 (.done)))))))))) (.alt (.one 2 (.alt (.one 0 (.alt (.one 1 (.one 3 (.one 4 (.one 5 (.done))))) (.one 3 (.alt (.one 1 (.one 4 (.one 5 (.done)))) (.one 4 (.one 1 (.one 5 (.done)))))))) (.alt (.one 1 (.alt (.one 0 (.one 3 (.one 4 (.one 5 (.done))))) (.one 3 (.one 0 (.one 4 (.one 5 (.done))))))) (.one 3 (.one 0 (.alt (.one 1 (.one 4 (.one 5 (.done)))) (.one 4 (.one 1 (.one 5 (.done)))))))))) (.one 3 (.alt (.one 0 (.alt (.one 1 (.one 2 (.one 4 (.one 5 (.done))))) (.one 2 (.alt (.one 1 (.one 4 (.one 5 (.done)))) (.one 4 (.one 1 (.one 5 (.done)))))))) (.alt (.one 1 (.alt (.one 0 (.one 2 (.one 4 (.one 5 (.done))))) (.one 2 (.one 0 (.one 4 (.one 5 (.done))))))) (.one 2 (.one 0 (.alt (.one 1 (.one 4 (.one 5 (.done)))) (.one 4 (.one 1 (.one 5 (.done)))))))))))) := rfl
theorem O8_16 : O8 16 = .one 0 (.one 1 (.one 2 (.one 3 (.one 4 (.one 5 (.one 6 (.one 7 (.one 8 (.one 9 (.one 10 (.one 11 (.done)))))))))))) := rfl
theorem O8_19 : O8 19 = .one 1 (.one 4 (.alt (.one 0 (.one 2 (.alt (.one 3 (.one 5 (.one 6 (.one 7 (.one 8 (.done)))))) (.one 5 (.one 3 (.one 6 (.one 7 (.one 8 (.done))))))))) (.alt (.one 2 (.alt (.one 0 (.alt (.one 3 (.one 5 (.one 6 (.one 7 (.one 8 (.done)))))) (.one 5 (.one 3 (.one 6 (.one 7 (.one 8 (.done)))))))) (.one 5 (.one 0 (.one 3 (.one 6 (.one 7 (.one 8 (.done))))))))) (.one 5 (.alt (.one 0 (.one 2 (.one 3 (.one 6 (.one 7 (.one 8 (.done))))))) (.one 2 (.one 0 (.one 3 (.one 6 (.one 7 (.one 8 (.done)))))))))))) := rfl
theorem O8_27 : O8 27 = .one 0 (.one 1 (.one 2 (.one 3 (.one 4 (.one 5 (.one 6 (.one 7 (.one 8 (.one 9 (.one 10 (.one 11 (.one 12 (.one 13 (.one 14 (.one 15 (.one 16 (.one 17 (.one 18 (.one 19 (.one 20 (.one 21 (.one 22 (.one 23 (.one 24 (.one 25 (.one 26 (.one 27 (.one 28 (.one 29 (.one 30 (.one 31 (.one 32 (.one 33 (.one 34 (.done))))))))))))))))))))))))))))))))))) := rfl
theorem ho8 : Tryd.f8.body.map (okO O8) = some true := by kernel_rfl
def Cf8 : Nat → List AV → (AV → List AV → Sto → Prop) → Kt → List AV → Sto → Prop := fun f args K Q e s => match f with
  | 9 => ent9 args K e s
  | 10 => sp10 args K e s
  | 13 => sp13 args K e s
  | 22 => ent22 args K e s
  | _ => False
def Ct8 : CT := { f := Cf8, y := noYld, z := fun d => false }
theorem ctz8 {d : Nat} : CT.z Ct8 d = (false) := id rfl
theorem Ct8_ok : Ct8.ok Tryd.prog := ok_of_f (fun f args K Q e s h => by
  have h : Cf8 f args K Q e s := h
  unfold Cf8 at h; split at h
  · exact ent9_ok h
  · exact sp10_ok h
  · exact sp13_ok h
  · exact ent22_ok h
  · exact h.elim) (fun _ _ _ _ _ _ _ _ _ h => h)
theorem x8_9 {l : Lea} {m : Int} {KK : AV → List AV → Sto → Prop} {QQ : Kt} {ii : At KK} {jj : At QQ} {ee : List AV} {ss : Sto} : xC Ct8 9 [.d (.agg l.c), .d (.i m)] KK QQ ii jj ee ss = (KK (.d (.b (lgB l m))) ee ss) := eq9
theorem x8_22 {l : Lea} {KK : AV → List AV → Sto → Prop} {QQ : Kt} {ii : At KK} {jj : At QQ} {ee : List AV} {ss : Sto} : xC Ct8 22 [.d (.agg l.c)] KK QQ ii jj ee ss = ((l.far.length ≤ 1000) ∧ KK (.d (.b (leaOk l))) ee ss) := eq22
theorem c8 : callable Tryd.prog 8 = true := by kernel_rfl
theorem pf8 (l : Lea) (t : Int) : PFG Tryd.prog 8 0 gpt [.agg l.c, .i t] (fun zz => zz = .ret (.b true)) := by
  have hx10 : ∀ {args : List AV} {KK : AV → List AV → Sto → Prop} {QQ : Kt} {ii : At KK} {jj : At QQ} {ee : List AV} {ss : Sto}, xC Ct8 10 args KK QQ ii jj ee ss = sp10 args KK ee ss := id rfl
  have hx13 : ∀ {args : List AV} {KK : AV → List AV → Sto → Prop} {QQ : Kt} {ii : At KK} {jj : At QQ} {ee : List AV} {ss : Sto}, xC Ct8 13 args KK QQ ii jj ee ss = sp13 args KK ee ss := id rfl
  refine PFG_nil (PFG_start (O := O8) Ct8_ok hmix ho8 Tryd.func8 c8 rfl Tryd.ntmps8 Tryd.results8 ?_)
  by_cases c0 : lgB l 4 = true
  · simp (maxSteps := 4000000) +contextual (disch := first | omega | exact qdb_ok (by kernel_rfl) | exact okb_ok (by kernel_rfl)) only [bw1,bw2,bw3,bw4,bw5,bw6,bw7,bc0,bc1,bc2,bc3,bc4,bc5,bc6,bc7,bb0,setPs,AV.owns,AV.datF,AV.frz,AV.cpy,ifV,isEqB,nilV,nilX,AV.isNilS,AV.isNoRows,wk,dclo,datOf,binIs,addF,AV.isPtr,idxV,AV.isSl,AV.isSlice,AV.rows,ps,pv,extV,extS,AV.outs,AV.outF,packD,AV.dl,fieldV,fieldS,AV.cells?,AV.upr,AV.menc,AV.one,D.one,Value.oneCell',tagOf,AV.isApp,strV,strS,bolV,bolS,slcV,AV.isSlD,asrtS,AV.dcells,D.cells?,stcV,stcS,leafOk,eqDs,eqD,packA,D.val?,↓reduceIte,reduceCtorEq,Nat.reduceAdd,Nat.reduceSub,Nat.reduceMul,List.reduceReplicate,Nat.reduceLeDiff,Nat.reduceLT,Nat.reduceBEq,Nat.reduceEqDiff,Int.reduceNeg,Int.reduceEq,Int.reduceLE,Int.reduceLT,tfb,D.flat,D.flats,av_glob,n_seq,on_s,ctz8,O8_8,O8_16,O8_19,O8_27,x8_9,x8_22,c0, hx10]
    refine ⟨rfl, rfl, ?_⟩
    simp (maxSteps := 4000000) +contextual (disch := first | omega | exact qdb_ok (by kernel_rfl) | exact okb_ok (by kernel_rfl)) only [bw1,bw2,bw3,bw4,bw5,bw6,bw7,bc0,bc1,bc2,bc3,bc4,bc5,bc6,bc7,bb0,setPs,AV.owns,AV.datF,AV.frz,AV.cpy,ifV,isEqB,nilV,nilX,AV.isNilS,AV.isNoRows,wk,dclo,datOf,binIs,addF,AV.isPtr,idxV,AV.isSl,AV.isSlice,AV.rows,ps,pv,extV,extS,AV.outs,AV.outF,packD,AV.dl,fieldV,fieldS,AV.cells?,AV.upr,AV.menc,AV.one,D.one,Value.oneCell',tagOf,AV.isApp,strV,strS,bolV,bolS,slcV,AV.isSlD,asrtS,AV.dcells,D.cells?,stcV,stcS,leafOk,eqDs,eqD,packA,D.val?,↓reduceIte,reduceCtorEq,Nat.reduceAdd,Nat.reduceSub,Nat.reduceMul,List.reduceReplicate,Nat.reduceLeDiff,Nat.reduceLT,Nat.reduceBEq,Nat.reduceEqDiff,Int.reduceNeg,Int.reduceEq,Int.reduceLE,Int.reduceLT,tfb,D.flat,D.flats,av_glob,n_seq,on_s,ctz8,O8_8,O8_16,O8_19,O8_27,x8_9,x8_22,eq_self]
  have c0b : lgB l 4 = false := by simpa using c0
  have hl := lg_no c0
  have hf : l.far.length ≤ 1000 := by omega
  by_cases c1 : 32 < (l.games.length : Int)
  · simp (maxSteps := 4000000) +contextual (disch := first | omega | exact qdb_ok (by kernel_rfl) | exact okb_ok (by kernel_rfl)) only [bw1,bw2,bw3,bw4,bw5,bw6,bw7,bc0,bc1,bc2,bc3,bc4,bc5,bc6,bc7,bb0,setPs,AV.owns,AV.datF,AV.frz,AV.cpy,ifV,isEqB,nilV,nilX,AV.isNilS,AV.isNoRows,wk,dclo,datOf,binIs,addF,AV.isPtr,idxV,AV.isSl,AV.isSlice,AV.rows,ps,pv,extV,extS,AV.outs,AV.outF,packD,AV.dl,fieldV,fieldS,AV.cells?,AV.upr,AV.menc,AV.one,D.one,Value.oneCell',tagOf,AV.isApp,strV,strS,bolV,bolS,slcV,AV.isSlD,asrtS,AV.dcells,D.cells?,stcV,stcS,leafOk,eqDs,eqD,packA,D.val?,↓reduceIte,reduceCtorEq,Nat.reduceAdd,Nat.reduceSub,Nat.reduceMul,List.reduceReplicate,Nat.reduceLeDiff,Nat.reduceLT,Nat.reduceBEq,Nat.reduceEqDiff,Int.reduceNeg,Int.reduceEq,Int.reduceLE,Int.reduceLT,tfb,D.flat,D.flats,av_glob,n_seq,on_s,ctz8,O8_8,O8_16,O8_19,O8_27,x8_9,x8_22,c0b, c1, hx10]
    refine ⟨rfl, rfl, ?_⟩
    simp (maxSteps := 4000000) +contextual (disch := first | omega | exact qdb_ok (by kernel_rfl) | exact okb_ok (by kernel_rfl)) only [bw1,bw2,bw3,bw4,bw5,bw6,bw7,bc0,bc1,bc2,bc3,bc4,bc5,bc6,bc7,bb0,setPs,AV.owns,AV.datF,AV.frz,AV.cpy,ifV,isEqB,nilV,nilX,AV.isNilS,AV.isNoRows,wk,dclo,datOf,binIs,addF,AV.isPtr,idxV,AV.isSl,AV.isSlice,AV.rows,ps,pv,extV,extS,AV.outs,AV.outF,packD,AV.dl,fieldV,fieldS,AV.cells?,AV.upr,AV.menc,AV.one,D.one,Value.oneCell',tagOf,AV.isApp,strV,strS,bolV,bolS,slcV,AV.isSlD,asrtS,AV.dcells,D.cells?,stcV,stcS,leafOk,eqDs,eqD,packA,D.val?,↓reduceIte,reduceCtorEq,Nat.reduceAdd,Nat.reduceSub,Nat.reduceMul,List.reduceReplicate,Nat.reduceLeDiff,Nat.reduceLT,Nat.reduceBEq,Nat.reduceEqDiff,Int.reduceNeg,Int.reduceEq,Int.reduceLE,Int.reduceLT,tfb,D.flat,D.flats,av_glob,n_seq,on_s,ctz8,O8_8,O8_16,O8_19,O8_27,x8_9,x8_22,eq_self]
  simp (maxSteps := 4000000) +contextual (disch := first | omega | exact qdb_ok (by kernel_rfl) | exact okb_ok (by kernel_rfl)) only [bw1,bw2,bw3,bw4,bw5,bw6,bw7,bc0,bc1,bc2,bc3,bc4,bc5,bc6,bc7,bb0,setPs,AV.owns,AV.datF,AV.frz,AV.cpy,ifV,isEqB,nilV,nilX,AV.isNilS,AV.isNoRows,wk,dclo,datOf,binIs,addF,AV.isPtr,idxV,AV.isSl,AV.isSlice,AV.rows,ps,pv,extV,extS,AV.outs,AV.outF,packD,AV.dl,fieldV,fieldS,AV.cells?,AV.upr,AV.menc,AV.one,D.one,Value.oneCell',tagOf,AV.isApp,strV,strS,bolV,bolS,slcV,AV.isSlD,asrtS,AV.dcells,D.cells?,stcV,stcS,leafOk,eqDs,eqD,packA,D.val?,↓reduceIte,reduceCtorEq,Nat.reduceAdd,Nat.reduceSub,Nat.reduceMul,List.reduceReplicate,Nat.reduceLeDiff,Nat.reduceLT,Nat.reduceBEq,Nat.reduceEqDiff,Int.reduceNeg,Int.reduceEq,Int.reduceLE,Int.reduceLT,tfb,D.flat,D.flats,av_glob,n_seq,on_s,ctz8,O8_8,O8_16,O8_19,O8_27,x8_9,x8_22,c0b, c1, hx13]
  refine ⟨l, t, hf, rfl, ?_⟩
  by_cases c2 : leaOk l = true
  case neg =>
    have hr : trR l t = (0, 1) := by unfold trR; rw [if_neg c2]
    rw [hr]
    simp (maxSteps := 4000000) +contextual (disch := first | omega | exact qdb_ok (by kernel_rfl) | exact okb_ok (by kernel_rfl)) only [bw1,bw2,bw3,bw4,bw5,bw6,bw7,bc0,bc1,bc2,bc3,bc4,bc5,bc6,bc7,bb0,setPs,AV.owns,AV.datF,AV.frz,AV.cpy,ifV,isEqB,nilV,nilX,AV.isNilS,AV.isNoRows,wk,dclo,datOf,binIs,addF,AV.isPtr,idxV,AV.isSl,AV.isSlice,AV.rows,ps,pv,extV,extS,AV.outs,AV.outF,packD,AV.dl,fieldV,fieldS,AV.cells?,AV.upr,AV.menc,AV.one,D.one,Value.oneCell',tagOf,AV.isApp,strV,strS,bolV,bolS,slcV,AV.isSlD,asrtS,AV.dcells,D.cells?,stcV,stcS,leafOk,eqDs,eqD,packA,D.val?,↓reduceIte,reduceCtorEq,Nat.reduceAdd,Nat.reduceSub,Nat.reduceMul,List.reduceReplicate,Nat.reduceLeDiff,Nat.reduceLT,Nat.reduceBEq,Nat.reduceEqDiff,Int.reduceNeg,Int.reduceEq,Int.reduceLE,Int.reduceLT,tfb,D.flat,D.flats,av_glob,n_seq,on_s,ctz8,O8_8,O8_16,O8_19,O8_27,x8_9,x8_22,hx10]
    refine ⟨rfl, rfl, ?_⟩
    simp (maxSteps := 4000000) +contextual (disch := first | omega | exact qdb_ok (by kernel_rfl) | exact okb_ok (by kernel_rfl)) only [bw1,bw2,bw3,bw4,bw5,bw6,bw7,bc0,bc1,bc2,bc3,bc4,bc5,bc6,bc7,bb0,setPs,AV.owns,AV.datF,AV.frz,AV.cpy,ifV,isEqB,nilV,nilX,AV.isNilS,AV.isNoRows,wk,dclo,datOf,binIs,addF,AV.isPtr,idxV,AV.isSl,AV.isSlice,AV.rows,ps,pv,extV,extS,AV.outs,AV.outF,packD,AV.dl,fieldV,fieldS,AV.cells?,AV.upr,AV.menc,AV.one,D.one,Value.oneCell',tagOf,AV.isApp,strV,strS,bolV,bolS,slcV,AV.isSlD,asrtS,AV.dcells,D.cells?,stcV,stcS,leafOk,eqDs,eqD,packA,D.val?,↓reduceIte,reduceCtorEq,Nat.reduceAdd,Nat.reduceSub,Nat.reduceMul,List.reduceReplicate,Nat.reduceLeDiff,Nat.reduceLT,Nat.reduceBEq,Nat.reduceEqDiff,Int.reduceNeg,Int.reduceEq,Int.reduceLE,Int.reduceLT,tfb,D.flat,D.flats,av_glob,n_seq,on_s,ctz8,O8_8,O8_16,O8_19,O8_27,x8_9,x8_22,eq_self]
  by_cases c3 : inB t 0 ((l.far.length : Int) - 1) = true
  case neg =>
    have hr : trR l t = (0, 2) := by unfold trR; rw [if_pos c2, if_neg c3]
    rw [hr]
    simp (maxSteps := 4000000) +contextual (disch := first | omega | exact qdb_ok (by kernel_rfl) | exact okb_ok (by kernel_rfl)) only [bw1,bw2,bw3,bw4,bw5,bw6,bw7,bc0,bc1,bc2,bc3,bc4,bc5,bc6,bc7,bb0,setPs,AV.owns,AV.datF,AV.frz,AV.cpy,ifV,isEqB,nilV,nilX,AV.isNilS,AV.isNoRows,wk,dclo,datOf,binIs,addF,AV.isPtr,idxV,AV.isSl,AV.isSlice,AV.rows,ps,pv,extV,extS,AV.outs,AV.outF,packD,AV.dl,fieldV,fieldS,AV.cells?,AV.upr,AV.menc,AV.one,D.one,Value.oneCell',tagOf,AV.isApp,strV,strS,bolV,bolS,slcV,AV.isSlD,asrtS,AV.dcells,D.cells?,stcV,stcS,leafOk,eqDs,eqD,packA,D.val?,↓reduceIte,reduceCtorEq,Nat.reduceAdd,Nat.reduceSub,Nat.reduceMul,List.reduceReplicate,Nat.reduceLeDiff,Nat.reduceLT,Nat.reduceBEq,Nat.reduceEqDiff,Int.reduceNeg,Int.reduceEq,Int.reduceLE,Int.reduceLT,tfb,D.flat,D.flats,av_glob,n_seq,on_s,ctz8,O8_8,O8_16,O8_19,O8_27,x8_9,x8_22,hx10]
    refine ⟨rfl, rfl, ?_⟩
    simp (maxSteps := 4000000) +contextual (disch := first | omega | exact qdb_ok (by kernel_rfl) | exact okb_ok (by kernel_rfl)) only [bw1,bw2,bw3,bw4,bw5,bw6,bw7,bc0,bc1,bc2,bc3,bc4,bc5,bc6,bc7,bb0,setPs,AV.owns,AV.datF,AV.frz,AV.cpy,ifV,isEqB,nilV,nilX,AV.isNilS,AV.isNoRows,wk,dclo,datOf,binIs,addF,AV.isPtr,idxV,AV.isSl,AV.isSlice,AV.rows,ps,pv,extV,extS,AV.outs,AV.outF,packD,AV.dl,fieldV,fieldS,AV.cells?,AV.upr,AV.menc,AV.one,D.one,Value.oneCell',tagOf,AV.isApp,strV,strS,bolV,bolS,slcV,AV.isSlD,asrtS,AV.dcells,D.cells?,stcV,stcS,leafOk,eqDs,eqD,packA,D.val?,↓reduceIte,reduceCtorEq,Nat.reduceAdd,Nat.reduceSub,Nat.reduceMul,List.reduceReplicate,Nat.reduceLeDiff,Nat.reduceLT,Nat.reduceBEq,Nat.reduceEqDiff,Int.reduceNeg,Int.reduceEq,Int.reduceLE,Int.reduceLT,tfb,D.flat,D.flats,av_glob,n_seq,on_s,ctz8,O8_8,O8_16,O8_19,O8_27,x8_9,x8_22,eq_self]
  have hr : trR l t = (trF l t, 0) := by unfold trR; rw [if_pos c2, if_pos c3]
  have ht := inB_iff.1 c3
  have ht' : 0 ≤ t ∧ t < l.far.length := by omega
  have ht0 : ¬ t < 0 := by omega
  have ht1 : ¬ (l.far.length : Int) ≤ t := by omega
  simp (maxSteps := 4000000) +contextual (disch := first | omega | exact qdb_ok (by kernel_rfl) | exact okb_ok (by kernel_rfl)) only [bw1,bw2,bw3,bw4,bw5,bw6,bw7,bc0,bc1,bc2,bc3,bc4,bc5,bc6,bc7,bb0,setPs,AV.owns,AV.datF,AV.frz,AV.cpy,ifV,isEqB,nilV,nilX,AV.isNilS,AV.isNoRows,wk,dclo,datOf,binIs,addF,AV.isPtr,idxV,AV.isSl,AV.isSlice,AV.rows,ps,pv,extV,extS,AV.outs,AV.outF,packD,AV.dl,fieldV,fieldS,AV.cells?,AV.upr,AV.menc,AV.one,D.one,Value.oneCell',tagOf,AV.isApp,strV,strS,bolV,bolS,slcV,AV.isSlD,asrtS,AV.dcells,D.cells?,stcV,stcS,leafOk,eqDs,eqD,packA,D.val?,↓reduceIte,reduceCtorEq,Nat.reduceAdd,Nat.reduceSub,Nat.reduceMul,List.reduceReplicate,Nat.reduceLeDiff,Nat.reduceLT,Nat.reduceBEq,Nat.reduceEqDiff,Int.reduceNeg,Int.reduceEq,Int.reduceLE,Int.reduceLT,tfb,D.flat,D.flats,av_glob,n_seq,on_s,ctz8,O8_8,O8_16,O8_19,O8_27,x8_9,x8_22,c2, ht0, ht1, hf, hr]
  refine seedS (m1 := mk _) (m2 := mk _) 8 1 107 53 6 _ (by decide) (by decide) rfl rfl (by simp [AV.mens, AV.men]) (by simp [Sto.mens, AV.mens, AV.men]) rfl ?_
  refine loop_xu (O := O8) (tb := 0) Ct8_ok hmix (by kernel_rfl) (σ := Nat) (fun k => [(9, .i (trN l t k).1), (10, .i (trN l t k).2), (11, .i k), (12, .any)]) (fun k => [(8, [.d (.sl 1 (l.far.map pc)), .own 107 53 6 ((onG l t k).map Gam.c)])]) (fun k => k ≤ l.games.length) (fun k => l.games.length - k) 0 (Nat.zero_le _) ?_ ?_
  · have hz : trN l t 0 = (0, t) := trN_zero
    have hz2 : (onG l t 0).map Gam.c = [] := rfl
    simp (maxSteps := 4000000) +contextual (disch := first | omega | exact qdb_ok (by kernel_rfl) | exact okb_ok (by kernel_rfl)) only [bw1,bw2,bw3,bw4,bw5,bw6,bw7,bc0,bc1,bc2,bc3,bc4,bc5,bc6,bc7,bb0,setPs,AV.owns,AV.datF,AV.frz,AV.cpy,ifV,isEqB,nilV,nilX,AV.isNilS,AV.isNoRows,wk,dclo,datOf,binIs,addF,AV.isPtr,idxV,AV.isSl,AV.isSlice,AV.rows,ps,pv,extV,extS,AV.outs,AV.outF,packD,AV.dl,fieldV,fieldS,AV.cells?,AV.upr,AV.menc,AV.one,D.one,Value.oneCell',tagOf,AV.isApp,strV,strS,bolV,bolS,slcV,AV.isSlD,asrtS,AV.dcells,D.cells?,stcV,stcS,leafOk,eqDs,eqD,packA,D.val?,↓reduceIte,reduceCtorEq,Nat.reduceAdd,Nat.reduceSub,Nat.reduceMul,List.reduceReplicate,Nat.reduceLeDiff,Nat.reduceLT,Nat.reduceBEq,Nat.reduceEqDiff,Int.reduceNeg,Int.reduceEq,Int.reduceLE,Int.reduceLT,tfb,D.flat,D.flats,av_glob,n_seq,on_s,ctz8,O8_8,O8_16,O8_19,O8_27,x8_9,x8_22,eq_self, hz, hz2]
  rintro k hk
  have hb := trN_b c2 ht' k hk
  by_cases hlt : k < l.games.length
  case neg =>
    obtain rfl : k = l.games.length := by omega
    have hol := onG_len (l := l) (t := t) (k := l.games.length)
    have hma : (onG l t l.games.length).map Gam.c ++ (onG l t l.games.length).map Gam.c = (lea2 l t).games.map Gam.c := (List.map_append).symm
    have hr1 : trR (lea1 l t) t = (trF l t, 0) := by
      unfold trR
      rw [if_pos (lea1_ok c2), trF_1]
      exact if_pos c3
    have hr2 : trR (lea2 l t) t = (trF (lea2 l t) t, 0) := by
      unfold trR
      rw [if_pos (lea2_ok c2 (lg_no4 c0 c2) (by omega))]
      exact if_pos c3
    simp (maxSteps := 4000000) +contextual (disch := first | omega | exact qdb_ok (by kernel_rfl) | exact okb_ok (by kernel_rfl)) only [bw1,bw2,bw3,bw4,bw5,bw6,bw7,bc0,bc1,bc2,bc3,bc4,bc5,bc6,bc7,bb0,setPs,AV.owns,AV.datF,AV.frz,AV.cpy,ifV,isEqB,nilV,nilX,AV.isNilS,AV.isNoRows,wk,dclo,datOf,binIs,addF,AV.isPtr,idxV,AV.isSl,AV.isSlice,AV.rows,ps,pv,extV,extS,AV.outs,AV.outF,packD,AV.dl,fieldV,fieldS,AV.cells?,AV.upr,AV.menc,AV.one,D.one,Value.oneCell',tagOf,AV.isApp,strV,strS,bolV,bolS,slcV,AV.isSlD,asrtS,AV.dcells,D.cells?,stcV,stcS,leafOk,eqDs,eqD,packA,D.val?,↓reduceIte,reduceCtorEq,Nat.reduceAdd,Nat.reduceSub,Nat.reduceMul,List.reduceReplicate,Nat.reduceLeDiff,Nat.reduceLT,Nat.reduceBEq,Nat.reduceEqDiff,Int.reduceNeg,Int.reduceEq,Int.reduceLE,Int.reduceLT,tfb,D.flat,D.flats,av_glob,n_seq,on_s,ctz8,O8_8,O8_16,O8_19,O8_27,x8_9,x8_22,eq_self, Int.lt_irrefl, hma]
    refine ⟨by omega, by omega, by omega, by omega, ?_⟩
    simp (maxSteps := 4000000) +contextual (disch := first | omega | exact qdb_ok (by kernel_rfl) | exact okb_ok (by kernel_rfl)) only [bw1,bw2,bw3,bw4,bw5,bw6,bw7,bc0,bc1,bc2,bc3,bc4,bc5,bc6,bc7,bb0,setPs,AV.owns,AV.datF,AV.frz,AV.cpy,ifV,isEqB,nilV,nilX,AV.isNilS,AV.isNoRows,wk,dclo,datOf,binIs,addF,AV.isPtr,idxV,AV.isSl,AV.isSlice,AV.rows,ps,pv,extV,extS,AV.outs,AV.outF,packD,AV.dl,fieldV,fieldS,AV.cells?,AV.upr,AV.menc,AV.one,D.one,Value.oneCell',tagOf,AV.isApp,strV,strS,bolV,bolS,slcV,AV.isSlD,asrtS,AV.dcells,D.cells?,stcV,stcS,leafOk,eqDs,eqD,packA,D.val?,↓reduceIte,reduceCtorEq,Nat.reduceAdd,Nat.reduceSub,Nat.reduceMul,List.reduceReplicate,Nat.reduceLeDiff,Nat.reduceLT,Nat.reduceBEq,Nat.reduceEqDiff,Int.reduceNeg,Int.reduceEq,Int.reduceLE,Int.reduceLT,tfb,D.flat,D.flats,av_glob,n_seq,on_s,ctz8,O8_8,O8_16,O8_19,O8_27,x8_9,x8_22,hx13]
    refine ⟨lea1 l t, t, hf, rfl, ?_⟩
    simp (maxSteps := 4000000) +contextual (disch := first | omega | exact qdb_ok (by kernel_rfl) | exact okb_ok (by kernel_rfl)) only [bw1,bw2,bw3,bw4,bw5,bw6,bw7,bc0,bc1,bc2,bc3,bc4,bc5,bc6,bc7,bb0,setPs,AV.owns,AV.datF,AV.frz,AV.cpy,ifV,isEqB,nilV,nilX,AV.isNilS,AV.isNoRows,wk,dclo,datOf,binIs,addF,AV.isPtr,idxV,AV.isSl,AV.isSlice,AV.rows,ps,pv,extV,extS,AV.outs,AV.outF,packD,AV.dl,fieldV,fieldS,AV.cells?,AV.upr,AV.menc,AV.one,D.one,Value.oneCell',tagOf,AV.isApp,strV,strS,bolV,bolS,slcV,AV.isSlD,asrtS,AV.dcells,D.cells?,stcV,stcS,leafOk,eqDs,eqD,packA,D.val?,↓reduceIte,reduceCtorEq,Nat.reduceAdd,Nat.reduceSub,Nat.reduceMul,List.reduceReplicate,Nat.reduceLeDiff,Nat.reduceLT,Nat.reduceBEq,Nat.reduceEqDiff,Int.reduceNeg,Int.reduceEq,Int.reduceLE,Int.reduceLT,tfb,D.flat,D.flats,av_glob,n_seq,on_s,ctz8,O8_8,O8_16,O8_19,O8_27,x8_9,x8_22,hx13, hr1]
    refine ⟨lea2 l t, t, hf, rfl, ?_⟩
    have hfr := fr_b c2 hb.2 ht'
    have hl2 : (trN l t l.games.length).2 < l.far.length := hb.2.2
    have hl3 : t < ((l.far.getD (trN l t l.games.length).2.toNat default).length : Int) := by omega
    have hfin : (trN l t l.games.length).1 + (l.far.getD (trN l t l.games.length).2.toNat default).getD t.toNat default = trF l t := rfl
    have hc0 : 0 ≤ (trN l t l.games.length).2 := hb.2.1
    have hbt := trF_b c2 ht'
    by_cases hz : ((onG l t l.games.length).length : Int) = 0
    · have hr3 := trF_2n (l := l) (t := t) (List.length_eq_zero_iff.1 (by omega))
      unfold fr at hfr
      simp (maxSteps := 4000000) +contextual (disch := first | omega | exact qdb_ok (by kernel_rfl) | exact okb_ok (by kernel_rfl)) only [bw1,bw2,bw3,bw4,bw5,bw6,bw7,bc0,bc1,bc2,bc3,bc4,bc5,bc6,bc7,bb0,setPs,AV.owns,AV.datF,AV.frz,AV.cpy,ifV,isEqB,nilV,nilX,AV.isNilS,AV.isNoRows,wk,dclo,datOf,binIs,addF,AV.isPtr,idxV,AV.isSl,AV.isSlice,AV.rows,ps,pv,extV,extS,AV.outs,AV.outF,packD,AV.dl,fieldV,fieldS,AV.cells?,AV.upr,AV.menc,AV.one,D.one,Value.oneCell',tagOf,AV.isApp,strV,strS,bolV,bolS,slcV,AV.isSlD,asrtS,AV.dcells,D.cells?,stcV,stcS,leafOk,eqDs,eqD,packA,D.val?,↓reduceIte,reduceCtorEq,Nat.reduceAdd,Nat.reduceSub,Nat.reduceMul,List.reduceReplicate,Nat.reduceLeDiff,Nat.reduceLT,Nat.reduceBEq,Nat.reduceEqDiff,Int.reduceNeg,Int.reduceEq,Int.reduceLE,Int.reduceLT,tfb,D.flat,D.flats,av_glob,n_seq,on_s,ctz8,O8_8,O8_16,O8_19,O8_27,x8_9,x8_22,hl2, hl3, hfin, bne_self_eq_false, hx10, hr2, hz, hr3, hc0, ht']
      refine ⟨rfl, rfl, ?_⟩
      simp (maxSteps := 4000000) +contextual (disch := first | omega | exact qdb_ok (by kernel_rfl) | exact okb_ok (by kernel_rfl)) only [bw1,bw2,bw3,bw4,bw5,bw6,bw7,bc0,bc1,bc2,bc3,bc4,bc5,bc6,bc7,bb0,setPs,AV.owns,AV.datF,AV.frz,AV.cpy,ifV,isEqB,nilV,nilX,AV.isNilS,AV.isNoRows,wk,dclo,datOf,binIs,addF,AV.isPtr,idxV,AV.isSl,AV.isSlice,AV.rows,ps,pv,extV,extS,AV.outs,AV.outF,packD,AV.dl,fieldV,fieldS,AV.cells?,AV.upr,AV.menc,AV.one,D.one,Value.oneCell',tagOf,AV.isApp,strV,strS,bolV,bolS,slcV,AV.isSlD,asrtS,AV.dcells,D.cells?,stcV,stcS,leafOk,eqDs,eqD,packA,D.val?,↓reduceIte,reduceCtorEq,Nat.reduceAdd,Nat.reduceSub,Nat.reduceMul,List.reduceReplicate,Nat.reduceLeDiff,Nat.reduceLT,Nat.reduceBEq,Nat.reduceEqDiff,Int.reduceNeg,Int.reduceEq,Int.reduceLE,Int.reduceLT,tfb,D.flat,D.flats,av_glob,n_seq,on_s,ctz8,O8_8,O8_16,O8_19,O8_27,x8_9,x8_22,eq_self]
    · have hz0 : 0 < ((onG l t l.games.length).length : Int) := by omega
      have hzn : 0 < (onG l t l.games.length).length := by omega
      have hg0 := onF_row hzn
      have hgm := onF_home c2 hzn
      have hr3 := trF_2f hzn
      have hfr2 := fr_b c2 hb.2 hgm
      have hfr3 := fr_b c2 ht' hgm
      have q1 : t < (l.far.length : Int) := ht'.2
      have q2 : (onF l t).home < ((l.far.getD (trN l t l.games.length).2.toNat default).length : Int) := by omega
      have q3 : (onF l t).home < ((l.far.getD t.toNat default).length : Int) := by omega
      have q4 : 0 ≤ (onF l t).home := hgm.1
      have t0 : Int.toNat 0 = 0 := rfl
      unfold fr at hfr hfr2 hfr3 hr3
      simp (maxSteps := 4000000) +contextual (disch := first | omega | exact qdb_ok (by kernel_rfl) | exact okb_ok (by kernel_rfl)) only [bw1,bw2,bw3,bw4,bw5,bw6,bw7,bc0,bc1,bc2,bc3,bc4,bc5,bc6,bc7,bb0,setPs,AV.owns,AV.datF,AV.frz,AV.cpy,ifV,isEqB,nilV,nilX,AV.isNilS,AV.isNoRows,wk,dclo,datOf,binIs,addF,AV.isPtr,idxV,AV.isSl,AV.isSlice,AV.rows,ps,pv,extV,extS,AV.outs,AV.outF,packD,AV.dl,fieldV,fieldS,AV.cells?,AV.upr,AV.menc,AV.one,D.one,Value.oneCell',tagOf,AV.isApp,strV,strS,bolV,bolS,slcV,AV.isSlD,asrtS,AV.dcells,D.cells?,stcV,stcS,leafOk,eqDs,eqD,packA,D.val?,↓reduceIte,reduceCtorEq,Nat.reduceAdd,Nat.reduceSub,Nat.reduceMul,List.reduceReplicate,Nat.reduceLeDiff,Nat.reduceLT,Nat.reduceBEq,Nat.reduceEqDiff,Int.reduceNeg,Int.reduceEq,Int.reduceLE,Int.reduceLT,tfb,D.flat,D.flats,av_glob,n_seq,on_s,ctz8,O8_8,O8_16,O8_19,O8_27,x8_9,x8_22,hl2, hl3, hfin, bne_self_eq_false, hx10, hr2, hz, hz0, hg0, hr3, hc0, ht', q1, q2, q3, q4, t0]
      refine ⟨rfl, rfl, ?_⟩
      simp (maxSteps := 4000000) +contextual (disch := first | omega | exact qdb_ok (by kernel_rfl) | exact okb_ok (by kernel_rfl)) only [bw1,bw2,bw3,bw4,bw5,bw6,bw7,bc0,bc1,bc2,bc3,bc4,bc5,bc6,bc7,bb0,setPs,AV.owns,AV.datF,AV.frz,AV.cpy,ifV,isEqB,nilV,nilX,AV.isNilS,AV.isNoRows,wk,dclo,datOf,binIs,addF,AV.isPtr,idxV,AV.isSl,AV.isSlice,AV.rows,ps,pv,extV,extS,AV.outs,AV.outF,packD,AV.dl,fieldV,fieldS,AV.cells?,AV.upr,AV.menc,AV.one,D.one,Value.oneCell',tagOf,AV.isApp,strV,strS,bolV,bolS,slcV,AV.isSlD,asrtS,AV.dcells,D.cells?,stcV,stcS,leafOk,eqDs,eqD,packA,D.val?,↓reduceIte,reduceCtorEq,Nat.reduceAdd,Nat.reduceSub,Nat.reduceMul,List.reduceReplicate,Nat.reduceLeDiff,Nat.reduceLT,Nat.reduceBEq,Nat.reduceEqDiff,Int.reduceNeg,Int.reduceEq,Int.reduceLE,Int.reduceLT,tfb,D.flat,D.flats,av_glob,n_seq,on_s,ctz8,O8_8,O8_16,O8_19,O8_27,x8_9,x8_22,eq_self]
  have hlt' : (k : Int) < l.games.length := by omega
  have hrw : (l.games.map Gam.c).getD k [] = Gam.c (l.games.getD k default) := Go.E.row_at hlt
  have hs := trN_succ (t := t) hlt
  have hgm := gm_teams (lea_gm c2 hlt)
  have hfr := fr_b c2 hb.2 (b := (l.games.getD k default).home) (by omega)
  have hl2 : (trN l t k).2 < l.far.length := hb.2.2
  have hl3 : (l.games.getD k default).home < ((l.far.getD (trN l t k).2.toNat default).length : Int) := by omega
  have holen := onG_len (l := l) (t := t) (k := k)
  unfold trG at hs
  by_cases d1 : hasB (l.games.getD k default) t = true
  case neg =>
    have ho := onG_no hlt d1
    rw [if_neg d1] at hs
    have d2 : ¬ (l.games.getD k default).home = t := fun h => d1 (by unfold hasB; rw [decide_eq_true h]; rfl)
    have d3 : ¬ (l.games.getD k default).away = t := fun h => d1 (by unfold hasB; rw [decide_eq_true h]; simp)
    have d2b : ((l.games.getD k default).home != t) = true := by simpa using d2
    have d3b : ((l.games.getD k default).away != t) = true := by simpa using d3
    simp (maxSteps := 4000000) +contextual (disch := first | omega | exact qdb_ok (by kernel_rfl) | exact okb_ok (by kernel_rfl)) only [bw1,bw2,bw3,bw4,bw5,bw6,bw7,bc0,bc1,bc2,bc3,bc4,bc5,bc6,bc7,bb0,setPs,AV.owns,AV.datF,AV.frz,AV.cpy,ifV,isEqB,nilV,nilX,AV.isNilS,AV.isNoRows,wk,dclo,datOf,binIs,addF,AV.isPtr,idxV,AV.isSl,AV.isSlice,AV.rows,ps,pv,extV,extS,AV.outs,AV.outF,packD,AV.dl,fieldV,fieldS,AV.cells?,AV.upr,AV.menc,AV.one,D.one,Value.oneCell',tagOf,AV.isApp,strV,strS,bolV,bolS,slcV,AV.isSlD,asrtS,AV.dcells,D.cells?,stcV,stcS,leafOk,eqDs,eqD,packA,D.val?,↓reduceIte,reduceCtorEq,Nat.reduceAdd,Nat.reduceSub,Nat.reduceMul,List.reduceReplicate,Nat.reduceLeDiff,Nat.reduceLT,Nat.reduceBEq,Nat.reduceEqDiff,Int.reduceNeg,Int.reduceEq,Int.reduceLE,Int.reduceLT,tfb,D.flat,D.flats,av_glob,n_seq,on_s,ctz8,O8_8,O8_16,O8_19,O8_27,x8_9,x8_22,eq_self, hlt', d2b, d3b, hrw]
    exact ⟨by omega, k + 1, ⟨by omega, by omega⟩, ⟨by rw [hs], by rw [hs], rfl⟩, by rw [ho]⟩
  have ho := onG_yes hlt d1
  rw [if_pos d1] at hs
  have hom : (onG l t k).map Gam.c ++ [Gam.c (l.games.getD k default)] = (onG l t (k + 1)).map Gam.c := by rw [ho, List.map_append]; rfl
  unfold fr at hs hfr
  by_cases d2 : (l.games.getD k default).home = t
  · have d2b : ((l.games.getD k default).home != t) = false := by simpa using d2
    simp (maxSteps := 4000000) +contextual (disch := first | omega | exact qdb_ok (by kernel_rfl) | exact okb_ok (by kernel_rfl)) only [bw1,bw2,bw3,bw4,bw5,bw6,bw7,bc0,bc1,bc2,bc3,bc4,bc5,bc6,bc7,bb0,setPs,AV.owns,AV.datF,AV.frz,AV.cpy,ifV,isEqB,nilV,nilX,AV.isNilS,AV.isNoRows,wk,dclo,datOf,binIs,addF,AV.isPtr,idxV,AV.isSl,AV.isSlice,AV.rows,ps,pv,extV,extS,AV.outs,AV.outF,packD,AV.dl,fieldV,fieldS,AV.cells?,AV.upr,AV.menc,AV.one,D.one,Value.oneCell',tagOf,AV.isApp,strV,strS,bolV,bolS,slcV,AV.isSlD,asrtS,AV.dcells,D.cells?,stcV,stcS,leafOk,eqDs,eqD,packA,D.val?,↓reduceIte,reduceCtorEq,Nat.reduceAdd,Nat.reduceSub,Nat.reduceMul,List.reduceReplicate,Nat.reduceLeDiff,Nat.reduceLT,Nat.reduceBEq,Nat.reduceEqDiff,Int.reduceNeg,Int.reduceEq,Int.reduceLE,Int.reduceLT,tfb,D.flat,D.flats,av_glob,n_seq,on_s,ctz8,O8_8,O8_16,O8_19,O8_27,x8_9,x8_22,eq_self, hlt', d2b, hrw, hl2, hl3, hom]
    exact ⟨by omega, by omega, by omega, by omega, by omega, k + 1, ⟨by omega, by omega⟩, ⟨by rw [hs], by rw [hs], rfl⟩, rfl⟩
  · have d3 : (l.games.getD k default).away = t := by
      unfold hasB at d1
      simp only [Bool.or_eq_true, decide_eq_true_eq] at d1
      rcases d1 with d1 | d1
      · exact absurd d1 d2
      · exact d1
    have d2b : ((l.games.getD k default).home != t) = true := by simpa using d2
    have d3b : ((l.games.getD k default).away != t) = false := by simpa using d3
    simp (maxSteps := 4000000) +contextual (disch := first | omega | exact qdb_ok (by kernel_rfl) | exact okb_ok (by kernel_rfl)) only [bw1,bw2,bw3,bw4,bw5,bw6,bw7,bc0,bc1,bc2,bc3,bc4,bc5,bc6,bc7,bb0,setPs,AV.owns,AV.datF,AV.frz,AV.cpy,ifV,isEqB,nilV,nilX,AV.isNilS,AV.isNoRows,wk,dclo,datOf,binIs,addF,AV.isPtr,idxV,AV.isSl,AV.isSlice,AV.rows,ps,pv,extV,extS,AV.outs,AV.outF,packD,AV.dl,fieldV,fieldS,AV.cells?,AV.upr,AV.menc,AV.one,D.one,Value.oneCell',tagOf,AV.isApp,strV,strS,bolV,bolS,slcV,AV.isSlD,asrtS,AV.dcells,D.cells?,stcV,stcS,leafOk,eqDs,eqD,packA,D.val?,↓reduceIte,reduceCtorEq,Nat.reduceAdd,Nat.reduceSub,Nat.reduceMul,List.reduceReplicate,Nat.reduceLeDiff,Nat.reduceLT,Nat.reduceBEq,Nat.reduceEqDiff,Int.reduceNeg,Int.reduceEq,Int.reduceLE,Int.reduceLT,tfb,D.flat,D.flats,av_glob,n_seq,on_s,ctz8,O8_8,O8_16,O8_19,O8_27,x8_9,x8_22,eq_self, hlt', d2b, d3b, hrw, hl2, hl3, hom]
    exact ⟨by omega, by omega, by omega, by omega, by omega, k + 1, ⟨by omega, by omega⟩, ⟨by rw [hs], by rw [hs], rfl⟩, rfl⟩
end Go.Proofs.YtmajlffglplcnaaDoor
