/- A part of the proof that the last text ends: what functions of the program do, told by plain data. -/
import Derived.Test.YtofbbkacihnjdaaDoorHZ
import Derived.Test.YtofbbkacihnjdaaDoorHPc
set_option linter.unusedVariables false
set_option linter.unusedSimpArgs false
namespace Go.Proofs.YtofbbkacihnjdaaDoor
open Go Go.E Go.Maps
set_option maxRecDepth 100000
set_option maxHeartbeats 4000000
def O6 : Nat → Sch := fun id => if id = 12 then .one 1 (.one 2 (.one 3 (.one 4 (.one 5 (.alt (.one 0 (.one 6 (.one 7 (.one 8 (.one 10 (.one 11 (.one 12 (.one 13 (.one 14 (.one 15 (.alt (.one 9 (.one 16 (.one 17 (.one 18 (.one 19 (.one 20 (.one 21 (.one 22 (.one 23 (.done)))))))))) (.one 16 (.one 9 (.one 17 (.one 18 (.one 19 (.one 20 (.one 21 (.one 22 (.one 23 (.done))))))))))))))))))))) (.one 6 (.one 0 (.one 7 (.one 8 (.one 10 (.one 11 (.one 12 (.one 13 (.one 14 (.one 15 (.alt (.one 9 (.one 16 (.one 17 (.one 18 (.one 19 (.one 20 (.one 21 (.one 22 (.one 23 (.done)))))))))) (.one 16 (.one 9 (.one 17 (.one 18 (.one 19 (.one 20 (.one 21 (.one 22 (.one 23 (.done)))))))))))))))))))))))))) else .done
theorem O6_12 : O6 12 = .one 1 (.one 2 (.one 3 (.one 4 (.one 5 (.alt (.one 0 (.one 6 (.one 7 (.one 8 (.one 10 (.one 11 (.one 12 (.one 13 (.one 14 (.one 15 (.alt (.one 9 (.one 16 (.one 17 (.one 18 (.one 19 (.one 20 (.one 21 (.one 22 (.one 23 (.done)))))))))) (.one 16 (.one 9 (.one 17 (.one 18 (.one 19 (.one 20 (.one 21 (.one 22 (.one 23 (.done))))))))))))))))))))) (.one 6 (.one 0 (.one 7 (.one 8 (.one 10 (.one 11 (.one 12 (.one 13 (.one 14 (.one 15 (.alt (.one 9 (.one 16 (.one 17 (.one 18 (.one 19 (.one 20 (.one 21 (.one 22 (.one 23 (.done)))))))))) (.one 16 (.one 9 (.one 17 (.one 18 (.one 19 (.one 20 (.one 21 (.one 22 (.one 23 (.done)))))))))))))))))))))))))) := rfl
theorem ho6 : Tryd.f6.body.map (okO O6) = some true := by kernel_rfl
def Cf6 : Nat → List AV → (AV → List AV → Sto → Prop) → Kt → List AV → Sto → Prop := fun f args K Q e s => match f with
  | 9 => sp9 args K e s
  | 10 => ent10 args K e s
  | 20 => ent20 args K e s
  | 21 => ent21 args K e s
  | 22 => ent22 args K e s
  | 27 => ent27 args K e s
  | 28 => ent28 args K e s
  | _ => False
def Ct6 : CT := { f := Cf6, y := noYld, z := fun d => false }
theorem ctz6 {d : Nat} : CT.z Ct6 d = (false) := id rfl
theorem Ct6_ok : Ct6.ok Tryd.prog := ok_of_f (fun f args K Q e s h => by
  have h : Cf6 f args K Q e s := h
  unfold Cf6 at h; split at h
  · exact sp9_ok h
  · exact ent10_ok h
  · exact ent20_ok h
  · exact ent21_ok h
  · exact ent22_ok h
  · exact ent27_ok h
  · exact ent28_ok h
  · exact h.elim) (fun _ _ _ _ _ _ _ _ _ h => h)
theorem x6_10 {t : Tt} {p : List Int} {KK : AV → List AV → Sto → Prop} {QQ : Kt} {ii : At KK} {jj : At QQ} {ee : List AV} {ss : Sto} : xC Ct6 10 [.d (.agg t.c), .d (.sl 1 (p.map ic))] KK QQ ii jj ee ss = (((t.hours.length ≤ 1000 ∧ t.groups.length ≤ 1000) ∧ p.length ≤ 1000) ∧ KK (.d (.tup [.sl 1 ((ckR t p).1.map ic), .i (ckR t p).2.1, .i (ckR t p).2.2])) ee ss) := eq10
theorem x6_10_m1 {t : Tt} {p : List Int} {g1 el1 : Nat} {KK : AV → List AV → Sto → Prop} {QQ : Kt} {ii : At KK} {jj : At QQ} {ee : List AV} {ss : Sto} : xC Ct6 10 [.d (.agg t.c), .own g1 el1 1 (p.map ic)] KK QQ ii jj ee ss = (((t.hours.length ≤ 1000 ∧ t.groups.length ≤ 1000) ∧ p.length ≤ 1000) ∧ KK (.d (.tup [.sl 1 ((ckR t p).1.map ic), .i (ckR t p).2.1, .i (ckR t p).2.2])) ee ss) := eqo10
theorem x6_20 {t : Tt} {KK : AV → List AV → Sto → Prop} {QQ : Kt} {ii : At KK} {jj : At QQ} {ee : List AV} {ss : Sto} : xC Ct6 20 [.d (.agg t.c)] KK QQ ii jj ee ss = (KK (.d (.b (lgT t))) ee ss) := eq20
theorem x6_21 {t : Tt} {KK : AV → List AV → Sto → Prop} {QQ : Kt} {ii : At KK} {jj : At QQ} {ee : List AV} {ss : Sto} : xC Ct6 21 [.d (.agg t.c)] KK QQ ii jj ee ss = ((t.hours.length ≤ 1000 ∧ t.groups.length ≤ 1000) ∧ KK (.d (.b (ttOk t))) ee ss) := eq21
theorem x6_22 {t : Tt} {p : List Int} {KK : AV → List AV → Sto → Prop} {QQ : Kt} {ii : At KK} {jj : At QQ} {ee : List AV} {ss : Sto} : xC Ct6 22 [.d (.agg t.c), .d (.sl 1 (p.map ic))] KK QQ ii jj ee ss = ((ttOk t = true ∧ p.length ≤ 1000) ∧ KK (.d (.b (goodB t p))) ee ss) := eq22
theorem x6_22_m1 {t : Tt} {p : List Int} {g1 el1 : Nat} {KK : AV → List AV → Sto → Prop} {QQ : Kt} {ii : At KK} {jj : At QQ} {ee : List AV} {ss : Sto} : xC Ct6 22 [.d (.agg t.c), .own g1 el1 1 (p.map ic)] KK QQ ii jj ee ss = ((ttOk t = true ∧ p.length ≤ 1000) ∧ (.b (goodB t p) : D).flat = true ∧ KK (.d (.b (goodB t p))) ee ss) := eqo22
theorem x6_27 {t : Tt} {p : List Int} {KK : AV → List AV → Sto → Prop} {QQ : Kt} {ii : At KK} {jj : At QQ} {ee : List AV} {ss : Sto} : xC Ct6 27 [.d (.agg t.c), .d (.sl 1 (p.map ic))] KK QQ ii jj ee ss = ((t.groups.length ≤ 1000 ∧ p.length ≤ 1000) ∧ KK (.d (.b (plOk t p))) ee ss) := eq27
theorem x6_27_m1 {t : Tt} {p : List Int} {g1 el1 : Nat} {KK : AV → List AV → Sto → Prop} {QQ : Kt} {ii : At KK} {jj : At QQ} {ee : List AV} {ss : Sto} : xC Ct6 27 [.d (.agg t.c), .own g1 el1 1 (p.map ic)] KK QQ ii jj ee ss = ((t.groups.length ≤ 1000 ∧ p.length ≤ 1000) ∧ (.b (plOk t p) : D).flat = true ∧ KK (.d (.b (plOk t p))) ee ss) := eqo27
theorem x6_28 {p : List Int} {n : Nat} {KK : AV → List AV → Sto → Prop} {QQ : Kt} {ii : At KK} {jj : At QQ} {ee : List AV} {ss : Sto} : xC Ct6 28 [.d (.sl 1 (p.map ic)), .d (.i (n : Int))] KK QQ ii jj ee ss = ((p.length ≤ 1000 ∧ n ≤ 1000) ∧ KK (.d (.sl 1 ((padL p n).map ic))) ee ss) := eq28
theorem x6_28_m1 {p : List Int} {n : Nat} {g1 el1 : Nat} {KK : AV → List AV → Sto → Prop} {QQ : Kt} {ii : At KK} {jj : At QQ} {ee : List AV} {ss : Sto} : xC Ct6 28 [.own g1 el1 1 (p.map ic), .d (.i (n : Int))] KK QQ ii jj ee ss = ((p.length ≤ 1000 ∧ n ≤ 1000) ∧ KK (.d (.sl 1 ((padL p n).map ic))) ee ss) := eqo28
theorem c6 : callable Tryd.prog 6 = true := by kernel_rfl
theorem lg_sz {t : Tt} (h : ¬ lgT t = true) : t.groups.length ≤ 8 ∧ t.hours.length ≤ 14 := by
  unfold lgT at h
  simp only [Bool.or_eq_true, decide_eq_true_eq, not_or] at h
  omega
theorem pf6 (t : Tt) (p : List Int) : PFG Tryd.prog 6 1 gtb [.agg t.c, .sl 1 (p.map ic)] (fun zz => zz = .ret (.b true)) := by
  by_cases g1 : lgT t = true
  case pos =>
    refine PFG_nil (PFG_start (O := O6) Ct6_ok hmix ho6 Tryd.func6 c6 rfl Tryd.ntmps6 Tryd.results6 ?_)
    simp (maxSteps := 4000000) +contextual (disch := first | omega | exact qdb_ok (by kernel_rfl) | exact okb_ok (by kernel_rfl)) only [bw1,bw2,bw3,bw4,bw5,bw6,bw7,bc0,bc1,bc2,bc3,bc4,bc5,bc6,bc7,bb0,setPs,AV.owns,AV.datF,AV.frz,AV.cpy,ifV,isEqB,nilV,nilX,AV.isNilS,AV.isNoRows,wk,dclo,datOf,binIs,addF,AV.isPtr,idxV,AV.isSl,AV.isSlice,AV.rows,ps,pv,extV,extS,AV.outs,AV.outF,packD,AV.dl,fieldV,fieldS,AV.cells?,AV.upr,AV.menc,AV.one,D.one,Value.oneCell',tagOf,AV.isApp,strV,strS,bolV,bolS,slcV,AV.isSlD,asrtS,AV.dcells,D.cells?,stcV,stcS,leafOk,eqDs,eqD,packA,D.val?,↓reduceIte,reduceCtorEq,Nat.reduceAdd,Nat.reduceSub,Nat.reduceMul,List.reduceReplicate,Nat.reduceLeDiff,Nat.reduceLT,Nat.reduceBEq,Nat.reduceEqDiff,Int.reduceNeg,Int.reduceEq,Int.reduceLE,Int.reduceLT,tfb,D.flat,D.flats,av_glob,n_seq,ctz6,O6_12,x6_10,x6_10_m1,x6_20,x6_21,x6_22,x6_22_m1,x6_27,x6_27_m1,x6_28,x6_28_m1,g1]
    refine call9x (C := Ct6) (i := mk _) (j := mk _) rfl rfl rfl ?_
    simp (maxSteps := 4000000) +contextual (disch := first | omega | exact qdb_ok (by kernel_rfl) | exact okb_ok (by kernel_rfl)) only [bw1,bw2,bw3,bw4,bw5,bw6,bw7,bc0,bc1,bc2,bc3,bc4,bc5,bc6,bc7,bb0,setPs,AV.owns,AV.datF,AV.frz,AV.cpy,ifV,isEqB,nilV,nilX,AV.isNilS,AV.isNoRows,wk,dclo,datOf,binIs,addF,AV.isPtr,idxV,AV.isSl,AV.isSlice,AV.rows,ps,pv,extV,extS,AV.outs,AV.outF,packD,AV.dl,fieldV,fieldS,AV.cells?,AV.upr,AV.menc,AV.one,D.one,Value.oneCell',tagOf,AV.isApp,strV,strS,bolV,bolS,slcV,AV.isSlD,asrtS,AV.dcells,D.cells?,stcV,stcS,leafOk,eqDs,eqD,packA,D.val?,↓reduceIte,reduceCtorEq,Nat.reduceAdd,Nat.reduceSub,Nat.reduceMul,List.reduceReplicate,Nat.reduceLeDiff,Nat.reduceLT,Nat.reduceBEq,Nat.reduceEqDiff,Int.reduceNeg,Int.reduceEq,Int.reduceLE,Int.reduceLT,tfb,D.flat,D.flats,av_glob,n_seq,ctz6,O6_12,x6_10,x6_10_m1,x6_20,x6_21,x6_22,x6_22_m1,x6_27,x6_27_m1,x6_28,x6_28_m1]
  by_cases g2 : p.length ≤ 16
  case neg =>
    have g2' : (16 : Int) < p.length := by omega
    refine PFG_nil (PFG_start (O := O6) Ct6_ok hmix ho6 Tryd.func6 c6 rfl Tryd.ntmps6 Tryd.results6 ?_)
    simp (maxSteps := 4000000) +contextual (disch := first | omega | exact qdb_ok (by kernel_rfl) | exact okb_ok (by kernel_rfl)) only [bw1,bw2,bw3,bw4,bw5,bw6,bw7,bc0,bc1,bc2,bc3,bc4,bc5,bc6,bc7,bb0,setPs,AV.owns,AV.datF,AV.frz,AV.cpy,ifV,isEqB,nilV,nilX,AV.isNilS,AV.isNoRows,wk,dclo,datOf,binIs,addF,AV.isPtr,idxV,AV.isSl,AV.isSlice,AV.rows,ps,pv,extV,extS,AV.outs,AV.outF,packD,AV.dl,fieldV,fieldS,AV.cells?,AV.upr,AV.menc,AV.one,D.one,Value.oneCell',tagOf,AV.isApp,strV,strS,bolV,bolS,slcV,AV.isSlD,asrtS,AV.dcells,D.cells?,stcV,stcS,leafOk,eqDs,eqD,packA,D.val?,↓reduceIte,reduceCtorEq,Nat.reduceAdd,Nat.reduceSub,Nat.reduceMul,List.reduceReplicate,Nat.reduceLeDiff,Nat.reduceLT,Nat.reduceBEq,Nat.reduceEqDiff,Int.reduceNeg,Int.reduceEq,Int.reduceLE,Int.reduceLT,tfb,D.flat,D.flats,av_glob,n_seq,ctz6,O6_12,x6_10,x6_10_m1,x6_20,x6_21,x6_22,x6_22_m1,x6_27,x6_27_m1,x6_28,x6_28_m1,g1, g2']
    refine call9x (C := Ct6) (i := mk _) (j := mk _) rfl rfl rfl ?_
    simp (maxSteps := 4000000) +contextual (disch := first | omega | exact qdb_ok (by kernel_rfl) | exact okb_ok (by kernel_rfl)) only [bw1,bw2,bw3,bw4,bw5,bw6,bw7,bc0,bc1,bc2,bc3,bc4,bc5,bc6,bc7,bb0,setPs,AV.owns,AV.datF,AV.frz,AV.cpy,ifV,isEqB,nilV,nilX,AV.isNilS,AV.isNoRows,wk,dclo,datOf,binIs,addF,AV.isPtr,idxV,AV.isSl,AV.isSlice,AV.rows,ps,pv,extV,extS,AV.outs,AV.outF,packD,AV.dl,fieldV,fieldS,AV.cells?,AV.upr,AV.menc,AV.one,D.one,Value.oneCell',tagOf,AV.isApp,strV,strS,bolV,bolS,slcV,AV.isSlD,asrtS,AV.dcells,D.cells?,stcV,stcS,leafOk,eqDs,eqD,packA,D.val?,↓reduceIte,reduceCtorEq,Nat.reduceAdd,Nat.reduceSub,Nat.reduceMul,List.reduceReplicate,Nat.reduceLeDiff,Nat.reduceLT,Nat.reduceBEq,Nat.reduceEqDiff,Int.reduceNeg,Int.reduceEq,Int.reduceLE,Int.reduceLT,tfb,D.flat,D.flats,av_glob,n_seq,ctz6,O6_12,x6_10,x6_10_m1,x6_20,x6_21,x6_22,x6_22_m1,x6_27,x6_27_m1,x6_28,x6_28_m1]
  have g2' : ¬ (16 : Int) < p.length := by omega
  have hsz0 := lg_sz g1
  have hsz : t.hours.length ≤ 1000 ∧ t.groups.length ≤ 1000 := by omega
  have hp1 : p.length ≤ 1000 := by omega
  by_cases e1 : (ckR t p).2.2 = 1
  case pos =>
    obtain ⟨a1, a2⟩ := ck_arg (.inl e1)
    refine PFG_nil (PFG_start (O := O6) Ct6_ok hmix ho6 Tryd.func6 c6 rfl Tryd.ntmps6 Tryd.results6 ?_)
    simp (maxSteps := 4000000) +contextual (disch := first | omega | exact qdb_ok (by kernel_rfl) | exact okb_ok (by kernel_rfl)) only [bw1,bw2,bw3,bw4,bw5,bw6,bw7,bc0,bc1,bc2,bc3,bc4,bc5,bc6,bc7,bb0,setPs,AV.owns,AV.datF,AV.frz,AV.cpy,ifV,isEqB,nilV,nilX,AV.isNilS,AV.isNoRows,wk,dclo,datOf,binIs,addF,AV.isPtr,idxV,AV.isSl,AV.isSlice,AV.rows,ps,pv,extV,extS,AV.outs,AV.outF,packD,AV.dl,fieldV,fieldS,AV.cells?,AV.upr,AV.menc,AV.one,D.one,Value.oneCell',tagOf,AV.isApp,strV,strS,bolV,bolS,slcV,AV.isSlD,asrtS,AV.dcells,D.cells?,stcV,stcS,leafOk,eqDs,eqD,packA,D.val?,↓reduceIte,reduceCtorEq,Nat.reduceAdd,Nat.reduceSub,Nat.reduceMul,List.reduceReplicate,Nat.reduceLeDiff,Nat.reduceLT,Nat.reduceBEq,Nat.reduceEqDiff,Int.reduceNeg,Int.reduceEq,Int.reduceLE,Int.reduceLT,tfb,D.flat,D.flats,av_glob,n_seq,ctz6,O6_12,x6_10,x6_10_m1,x6_20,x6_21,x6_22,x6_22_m1,x6_27,x6_27_m1,x6_28,x6_28_m1,g1, g2', hsz, hp1, e1, a1, a2]
    refine call9x (C := Ct6) (i := mk _) (j := mk _) rfl rfl rfl ?_
    simp (maxSteps := 4000000) +contextual (disch := first | omega | exact qdb_ok (by kernel_rfl) | exact okb_ok (by kernel_rfl)) only [bw1,bw2,bw3,bw4,bw5,bw6,bw7,bc0,bc1,bc2,bc3,bc4,bc5,bc6,bc7,bb0,setPs,AV.owns,AV.datF,AV.frz,AV.cpy,ifV,isEqB,nilV,nilX,AV.isNilS,AV.isNoRows,wk,dclo,datOf,binIs,addF,AV.isPtr,idxV,AV.isSl,AV.isSlice,AV.rows,ps,pv,extV,extS,AV.outs,AV.outF,packD,AV.dl,fieldV,fieldS,AV.cells?,AV.upr,AV.menc,AV.one,D.one,Value.oneCell',tagOf,AV.isApp,strV,strS,bolV,bolS,slcV,AV.isSlD,asrtS,AV.dcells,D.cells?,stcV,stcS,leafOk,eqDs,eqD,packA,D.val?,↓reduceIte,reduceCtorEq,Nat.reduceAdd,Nat.reduceSub,Nat.reduceMul,List.reduceReplicate,Nat.reduceLeDiff,Nat.reduceLT,Nat.reduceBEq,Nat.reduceEqDiff,Int.reduceNeg,Int.reduceEq,Int.reduceLE,Int.reduceLT,tfb,D.flat,D.flats,av_glob,n_seq,ctz6,O6_12,x6_10,x6_10_m1,x6_20,x6_21,x6_22,x6_22_m1,x6_27,x6_27_m1,x6_28,x6_28_m1]
  by_cases e2 : (ckR t p).2.2 = 2
  case pos =>
    obtain ⟨a1, a2⟩ := ck_arg (.inr e2)
    refine PFG_nil (PFG_start (O := O6) Ct6_ok hmix ho6 Tryd.func6 c6 rfl Tryd.ntmps6 Tryd.results6 ?_)
    simp (maxSteps := 4000000) +contextual (disch := first | omega | exact qdb_ok (by kernel_rfl) | exact okb_ok (by kernel_rfl)) only [bw1,bw2,bw3,bw4,bw5,bw6,bw7,bc0,bc1,bc2,bc3,bc4,bc5,bc6,bc7,bb0,setPs,AV.owns,AV.datF,AV.frz,AV.cpy,ifV,isEqB,nilV,nilX,AV.isNilS,AV.isNoRows,wk,dclo,datOf,binIs,addF,AV.isPtr,idxV,AV.isSl,AV.isSlice,AV.rows,ps,pv,extV,extS,AV.outs,AV.outF,packD,AV.dl,fieldV,fieldS,AV.cells?,AV.upr,AV.menc,AV.one,D.one,Value.oneCell',tagOf,AV.isApp,strV,strS,bolV,bolS,slcV,AV.isSlD,asrtS,AV.dcells,D.cells?,stcV,stcS,leafOk,eqDs,eqD,packA,D.val?,↓reduceIte,reduceCtorEq,Nat.reduceAdd,Nat.reduceSub,Nat.reduceMul,List.reduceReplicate,Nat.reduceLeDiff,Nat.reduceLT,Nat.reduceBEq,Nat.reduceEqDiff,Int.reduceNeg,Int.reduceEq,Int.reduceLE,Int.reduceLT,tfb,D.flat,D.flats,av_glob,n_seq,ctz6,O6_12,x6_10,x6_10_m1,x6_20,x6_21,x6_22,x6_22_m1,x6_27,x6_27_m1,x6_28,x6_28_m1,g1, g2', hsz, hp1, e2, a1, a2]
    refine call9x (C := Ct6) (i := mk _) (j := mk _) rfl rfl rfl ?_
    simp (maxSteps := 4000000) +contextual (disch := first | omega | exact qdb_ok (by kernel_rfl) | exact okb_ok (by kernel_rfl)) only [bw1,bw2,bw3,bw4,bw5,bw6,bw7,bc0,bc1,bc2,bc3,bc4,bc5,bc6,bc7,bb0,setPs,AV.owns,AV.datF,AV.frz,AV.cpy,ifV,isEqB,nilV,nilX,AV.isNilS,AV.isNoRows,wk,dclo,datOf,binIs,addF,AV.isPtr,idxV,AV.isSl,AV.isSlice,AV.rows,ps,pv,extV,extS,AV.outs,AV.outF,packD,AV.dl,fieldV,fieldS,AV.cells?,AV.upr,AV.menc,AV.one,D.one,Value.oneCell',tagOf,AV.isApp,strV,strS,bolV,bolS,slcV,AV.isSlD,asrtS,AV.dcells,D.cells?,stcV,stcS,leafOk,eqDs,eqD,packA,D.val?,↓reduceIte,reduceCtorEq,Nat.reduceAdd,Nat.reduceSub,Nat.reduceMul,List.reduceReplicate,Nat.reduceLeDiff,Nat.reduceLT,Nat.reduceBEq,Nat.reduceEqDiff,Int.reduceNeg,Int.reduceEq,Int.reduceLE,Int.reduceLT,tfb,D.flat,D.flats,av_glob,n_seq,ctz6,O6_12,x6_10,x6_10_m1,x6_20,x6_21,x6_22,x6_22_m1,x6_27,x6_27_m1,x6_28,x6_28_m1]
  have e1b : ((ckR t p).2.2 == 1) = false := by simpa using e1
  have e2b : ((ckR t p).2.2 == 2) = false := by simpa using e2
  obtain ⟨ht, hpl⟩ := ck_form (t := t) (p := p) (by omega)
  have hbig := tt_hours ht
  by_cases e0 : (ckR t p).2.2 = 0
  case pos =>
    obtain ⟨b1, b2, b3⟩ := ck_val ht e0
    have hgo : goodB t p = true := by rw [ck_good ht, e0]; rfl
    have hhl := hasL_len (t := t) (p := p)
    refine PFG_nil (PFG_start (O := O6) Ct6_ok hmix ho6 Tryd.func6 c6 rfl Tryd.ntmps6 Tryd.results6 ?_)
    simp (maxSteps := 4000000) +contextual (disch := first | omega | exact qdb_ok (by kernel_rfl) | exact okb_ok (by kernel_rfl)) only [bw1,bw2,bw3,bw4,bw5,bw6,bw7,bc0,bc1,bc2,bc3,bc4,bc5,bc6,bc7,bb0,setPs,AV.owns,AV.datF,AV.frz,AV.cpy,ifV,isEqB,nilV,nilX,AV.isNilS,AV.isNoRows,wk,dclo,datOf,binIs,addF,AV.isPtr,idxV,AV.isSl,AV.isSlice,AV.rows,ps,pv,extV,extS,AV.outs,AV.outF,packD,AV.dl,fieldV,fieldS,AV.cells?,AV.upr,AV.menc,AV.one,D.one,Value.oneCell',tagOf,AV.isApp,strV,strS,bolV,bolS,slcV,AV.isSlD,asrtS,AV.dcells,D.cells?,stcV,stcS,leafOk,eqDs,eqD,packA,D.val?,↓reduceIte,reduceCtorEq,Nat.reduceAdd,Nat.reduceSub,Nat.reduceMul,List.reduceReplicate,Nat.reduceLeDiff,Nat.reduceLT,Nat.reduceBEq,Nat.reduceEqDiff,Int.reduceNeg,Int.reduceEq,Int.reduceLE,Int.reduceLT,tfb,D.flat,D.flats,av_glob,n_seq,ctz6,O6_12,x6_10,x6_10_m1,x6_20,x6_21,x6_22,x6_22_m1,x6_27,x6_27_m1,x6_28,x6_28_m1,g1, g2', hsz, hp1, e0, b1, b2, ht, hpl, hgo, hhl]
    refine call9x (C := Ct6) (i := mk _) (j := mk _) rfl rfl rfl ?_
    simp (maxSteps := 4000000) +contextual (disch := first | omega | exact qdb_ok (by kernel_rfl) | exact okb_ok (by kernel_rfl)) only [bw1,bw2,bw3,bw4,bw5,bw6,bw7,bc0,bc1,bc2,bc3,bc4,bc5,bc6,bc7,bb0,setPs,AV.owns,AV.datF,AV.frz,AV.cpy,ifV,isEqB,nilV,nilX,AV.isNilS,AV.isNoRows,wk,dclo,datOf,binIs,addF,AV.isPtr,idxV,AV.isSl,AV.isSlice,AV.rows,ps,pv,extV,extS,AV.outs,AV.outF,packD,AV.dl,fieldV,fieldS,AV.cells?,AV.upr,AV.menc,AV.one,D.one,Value.oneCell',tagOf,AV.isApp,strV,strS,bolV,bolS,slcV,AV.isSlD,asrtS,AV.dcells,D.cells?,stcV,stcS,leafOk,eqDs,eqD,packA,D.val?,↓reduceIte,reduceCtorEq,Nat.reduceAdd,Nat.reduceSub,Nat.reduceMul,List.reduceReplicate,Nat.reduceLeDiff,Nat.reduceLT,Nat.reduceBEq,Nat.reduceEqDiff,Int.reduceNeg,Int.reduceEq,Int.reduceLE,Int.reduceLT,tfb,D.flat,D.flats,av_glob,n_seq,ctz6,O6_12,x6_10,x6_10_m1,x6_20,x6_21,x6_22,x6_22_m1,x6_27,x6_27_m1,x6_28,x6_28_m1]
  have e0b : ((ckR t p).2.2 == 0) = false := by simpa using e0
  have hgo : goodB t p = false := by rw [ck_good ht, decide_eq_false e0]
  obtain ⟨n, n1, n2, n3, _, _, n4, n5⟩ := ck_err ht hpl e0
  have n1' : ¬ (p.length : Int) ≤ n := by omega
  have n1'' : ¬ (n : Int) < 0 := by omega
  have hd1 : List.drop (Int.toNat 0) (List.take n (List.map ic p)) = (p.take n).map ic := by rw [List.map_take]; rfl
  have hd2 : List.drop (Int.toNat 0) (List.take ((n : Int) + 1).toNat (List.map ic p)) = (p.take (n + 1)).map ic := by rw [List.map_take, show ((n : Int) + 1).toNat = n + 1 by omega]; rfl
  have hq1 : (p.take n).length ≤ 1000 := by rw [List.length_take]; omega
  have hq2 : (p.take (n + 1)).length ≤ 1000 := by rw [List.length_take]; omega
  have hq3 : (padL (p.take n) p.length).length ≤ 1000 := by rw [padL_len (by rw [List.length_take]; omega)]; omega
  have hq4 : (padL (p.take (n + 1)) p.length).length ≤ 1000 := by rw [padL_len (by rw [List.length_take]; omega)]; omega
  have m1 : (0 : Int) ≤ n := by omega
  have m2 : (n : Int) ≤ p.length := by omega
  have m3 : (0 : Int) ≤ (n : Int) + 1 := by omega
  have m4 : (n : Int) + 1 ≤ p.length := by omega
  refine PFG_nil (PFG_start (O := O6) Ct6_ok hmix ho6 Tryd.func6 c6 rfl Tryd.ntmps6 Tryd.results6 ?_)
  simp (maxSteps := 4000000) +contextual (disch := first | omega | exact qdb_ok (by kernel_rfl) | exact okb_ok (by kernel_rfl)) only [bw1,bw2,bw3,bw4,bw5,bw6,bw7,bc0,bc1,bc2,bc3,bc4,bc5,bc6,bc7,bb0,setPs,AV.owns,AV.datF,AV.frz,AV.cpy,ifV,isEqB,nilV,nilX,AV.isNilS,AV.isNoRows,wk,dclo,datOf,binIs,addF,AV.isPtr,idxV,AV.isSl,AV.isSlice,AV.rows,ps,pv,extV,extS,AV.outs,AV.outF,packD,AV.dl,fieldV,fieldS,AV.cells?,AV.upr,AV.menc,AV.one,D.one,Value.oneCell',tagOf,AV.isApp,strV,strS,bolV,bolS,slcV,AV.isSlD,asrtS,AV.dcells,D.cells?,stcV,stcS,leafOk,eqDs,eqD,packA,D.val?,↓reduceIte,reduceCtorEq,Nat.reduceAdd,Nat.reduceSub,Nat.reduceMul,List.reduceReplicate,Nat.reduceLeDiff,Nat.reduceLT,Nat.reduceBEq,Nat.reduceEqDiff,Int.reduceNeg,Int.reduceEq,Int.reduceLE,Int.reduceLT,tfb,D.flat,D.flats,av_glob,n_seq,ctz6,O6_12,x6_10,x6_10_m1,x6_20,x6_21,x6_22,x6_22_m1,x6_27,x6_27_m1,x6_28,x6_28_m1,g1, g2', hsz, hp1, e0b, e1b, e2b, n2, n3, ht, hpl, hgo, n1', n1'', hd1, hd2, hq1, hq2, hq3, hq4, m1, m2, m3, m4, n4, n5]
  repeat' (with_reducible refine And.intro ?_ ?_)
  all_goals
    refine call9x (C := Ct6) (i := mk _) (j := mk _) rfl rfl rfl ?_
    simp (maxSteps := 4000000) +contextual (disch := first | omega | exact qdb_ok (by kernel_rfl) | exact okb_ok (by kernel_rfl)) only [bw1,bw2,bw3,bw4,bw5,bw6,bw7,bc0,bc1,bc2,bc3,bc4,bc5,bc6,bc7,bb0,setPs,AV.owns,AV.datF,AV.frz,AV.cpy,ifV,isEqB,nilV,nilX,AV.isNilS,AV.isNoRows,wk,dclo,datOf,binIs,addF,AV.isPtr,idxV,AV.isSl,AV.isSlice,AV.rows,ps,pv,extV,extS,AV.outs,AV.outF,packD,AV.dl,fieldV,fieldS,AV.cells?,AV.upr,AV.menc,AV.one,D.one,Value.oneCell',tagOf,AV.isApp,strV,strS,bolV,bolS,slcV,AV.isSlD,asrtS,AV.dcells,D.cells?,stcV,stcS,leafOk,eqDs,eqD,packA,D.val?,↓reduceIte,reduceCtorEq,Nat.reduceAdd,Nat.reduceSub,Nat.reduceMul,List.reduceReplicate,Nat.reduceLeDiff,Nat.reduceLT,Nat.reduceBEq,Nat.reduceEqDiff,Int.reduceNeg,Int.reduceEq,Int.reduceLE,Int.reduceLT,tfb,D.flat,D.flats,av_glob,n_seq,ctz6,O6_12,x6_10,x6_10_m1,x6_20,x6_21,x6_22,x6_22_m1,x6_27,x6_27_m1,x6_28,x6_28_m1]
end Go.Proofs.YtofbbkacihnjdaaDoor
