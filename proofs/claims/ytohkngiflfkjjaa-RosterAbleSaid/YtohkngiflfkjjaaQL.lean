/- A part of the proof that the last text ends: what functions of the program do, told by plain data. -/
import Derived.Test.YtohkngiflfkjjaaQK
import Derived.Test.YtohkngiflfkjjaaQJ0
set_option linter.unusedVariables false
set_option linter.unusedSimpArgs false
namespace Go.Proofs.Ytohkngiflfkjjaa
open Go Go.E Go.Maps
set_option maxRecDepth 100000
set_option maxHeartbeats 16000000
/-! ### RosterAble -/
theorem able_err {l : List Ev} {c d : Int} (h : (runR l).2.2 ≠ 0) : ableR l c d = ([], (runR l).2.2) := by unfold ableR; rw [if_neg h]
theorem able_rng {l : List Ev} {c d : Int} (h : (runR l).2.2 = 0) (h2 : ¬ (inB c 0 255 = true ∧ lateB l d = true)) : ableR l c d = ([], 2) := by unfold ableR; rw [if_pos h, if_neg h2]
theorem able_ok {l : List Ev} {c d : Int} (h : (runR l).2.2 = 0) (h2 : inB c 0 255 = true ∧ lateB l d = true) : ableR l c d = (ableL (runR l).1 c d, 0) := by unfold ableR; rw [if_pos h, if_pos h2]; rfl
theorem play3 (l : List Ev) : (playR l).2.2 = (runR l).2.2 := by
  unfold playR
  split
  · rename_i h; rw [h]
  · rfl
def O9 : Nat → Sch := fun id => if id = 20 then .one 0 (.one 1 (.one 2 (.one 3 (.one 4 (.one 5 (.one 6 (.one 7 (.one 8 (.one 9 (.one 10 (.one 11 (.one 12 (.one 13 (.one 14 (.one 15 (.one 16 (.done))))))))))))))))) else if id = 25 then .one 1 (.one 3 (.one 4 (.one 5 (.one 6 (.one 7 (.one 8 (.alt (.one 0 (.alt (.one 2 (.one 9 (.one 10 (.one 11 (.one 12 (.one 13 (.one 14 (.one 15 (.one 16 (.one 17 (.one 18 (.one 19 (.one 20 (.one 21 (.done))))))))))))))) (.one 9 (.alt (.one 2 (.one 10 (.one 11 (.one 12 (.one 13 (.one 14 (.one 15 (.one 16 (.one 17 (.one 18 (.one 19 (.one 20 (.one 21 (.done)))))))))))))) (.one 10 (.one 11 (.alt (.one 2 (.one 12 (.one 13 (.one 14 (.one 15 (.one 16 (.one 17 (.one 18 (.one 19 (.one 20 (.one 21 (.done)))))))))))) (.one 12 (.one 2 (.one 13 (.one 14 (.one 15 (.one 16 (.one 17 (.one 18 (.one 19 (.one 20 (.one 21 (.done))))))))))))))))))) (.one 9 (.alt (.one 0 (.alt (.one 2 (.one 10 (.one 11 (.one 12 (.one 13 (.one 14 (.one 15 (.one 16 (.one 17 (.one 18 (.one 19 (.one 20 (.one 21 (.done)))))))))))))) (.one 10 (.one 11 (.alt (.one 2 (.one 12 (.one 13 (.one 14 (.one 15 (.one 16 (.one 17 (.one 18 (.one 19 (.one 20 (.one 21 (.done)))))))))))) (.one 12 (.one 2 (.one 13 (.one 14 (.one 15 (.one 16 (.one 17 (.one 18 (.one 19 (.one 20 (.one 21 (.done))))))))))))))))) (.one 10 (.one 11 (.alt (.one 0 (.alt (.one 2 (.one 12 (.one 13 (.one 14 (.one 15 (.one 16 (.one 17 (.one 18 (.one 19 (.one 20 (.one 21 (.done)))))))))))) (.one 12 (.one 2 (.one 13 (.one 14 (.one 15 (.one 16 (.one 17 (.one 18 (.one 19 (.one 20 (.one 21 (.done)))))))))))))) (.one 12 (.one 0 (.one 2 (.one 13 (.one 14 (.one 15 (.one 16 (.one 17 (.one 18 (.one 19 (.one 20 (.one 21 (.done))))))))))))))))))))))))) else .done
theorem O9_20 : O9 20 = .one 0 (.one 1 (.one 2 (.one 3 (.one 4 (.one 5 (.one 6 (.one 7 (.one 8 (.one 9 (.one 10 (.one 11 (.one 12 (.one 13 (.one 14 (.one 15 (.one 16 (.done))))))))))))))))) := rfl
theorem O9_25 : O9 25 = .one 1 (.one 3 (.one 4 (.one 5 (.one 6 (.one 7 (.one 8 (.alt (.one 0 (.alt (.one 2 (.one 9 (.one 10 (.one 11 (.one 12 (.one 13 (.one 14 (.one 15 (.one 16 (.one 17 (.one 18 (.one 19 (.one 20 (.one 21 (.done))))))))))))))) (.one 9 (.alt (.one 2 (.one 10 (.one 11 (.one 12 (.one 13 (.one 14 (.one 15 (.one 16 (.one 17 (.one 18 (.one 19 (.one 20 (.one 21 (.done)))))))))))))) (.one 10 (.one 11 (.alt (.one 2 (.one 12 (.one 13 (.one 14 (.one 15 (.one 16 (.one 17 (.one 18 (.one 19 (.one 20 (.one 21 (.done)))))))))))) (.one 12 (.one 2 (.one 13 (.one 14 (.one 15 (.one 16 (.one 17 (.one 18 (.one 19 (.one 20 (.one 21 (.done))))))))))))))))))) (.one 9 (.alt (.one 0 (.alt (.one 2 (.one 10 (.one 11 (.one 12 (.one 13 (.one 14 (.one 15 (.one 16 (.one 17 (.one 18 (.one 19 (.one 20 (.one 21 (.done)))))))))))))) (.one 10 (.one 11 (.alt (.one 2 (.one 12 (.one 13 (.one 14 (.one 15 (.one 16 (.one 17 (.one 18 (.one 19 (.one 20 (.one 21 (.done)))))))))))) (.one 12 (.one 2 (.one 13 (.one 14 (.one 15 (.one 16 (.one 17 (.one 18 (.one 19 (.one 20 (.one 21 (.done))))))))))))))))) (.one 10 (.one 11 (.alt (.one 0 (.alt (.one 2 (.one 12 (.one 13 (.one 14 (.one 15 (.one 16 (.one 17 (.one 18 (.one 19 (.one 20 (.one 21 (.done)))))))))))) (.one 12 (.one 2 (.one 13 (.one 14 (.one 15 (.one 16 (.one 17 (.one 18 (.one 19 (.one 20 (.one 21 (.done)))))))))))))) (.one 12 (.one 0 (.one 2 (.one 13 (.one 14 (.one 15 (.one 16 (.one 17 (.one 18 (.one 19 (.one 20 (.one 21 (.done))))))))))))))))))))))))) := rfl
theorem ho9 : Try.f9.body.map (okO O9) = some true := by kernel_rfl
def Cf9 : Nat → List AV → (AV → List AV → Sto → Prop) → Kt → List AV → Sto → Prop := fun f args K Q e s => match f with
  | 12 => sp12 args K e s
  | 15 => ent15 args K e s
  | 18 => ent18 args K e s
  | 19 => ent19 args K e s
  | 22 => ent22 args K e s
  | _ => False
def Ct9 : CT := { f := Cf9, y := noYld, z := fun d => d == 179 }
theorem ctz9 {d : Nat} : CT.z Ct9 d = (d == 179) := id rfl
theorem Ct9_ok : Ct9.ok Try.prog := ok_of_f (fun f args K Q e s h => by
  have h : Cf9 f args K Q e s := h
  unfold Cf9 at h; split at h
  · exact sp12_ok h
  · exact ent15_ok h
  · exact ent18_ok h
  · exact ent19_ok h
  · exact ent22_ok h
  · exact h.elim) (fun _ _ _ _ _ _ _ _ _ h => h)
theorem x9_15 {l : List Ev} {c : Int} {d : Int} {KK : AV → List AV → Sto → Prop} {QQ : Kt} {ii : At KK} {jj : At QQ} {ee : List AV} {ss : Sto} : xC Ct9 15 [.d (.sl 5 (l.map Ev.c)), .d (.i c), .d (.i d)] KK QQ ii jj ee ss = ((ShsOk l) ∧ KK (.d (.tup [.sl 1 ((ableR l c d).1.map ic), .i (ableR l c d).2])) ee ss) := eq15
theorem x9_15_m1 {l : List Ev} {c : Int} {d : Int} {g1 el1 : Nat} {KK : AV → List AV → Sto → Prop} {QQ : Kt} {ii : At KK} {jj : At QQ} {ee : List AV} {ss : Sto} : xC Ct9 15 [.own g1 el1 5 (l.map Ev.c), .d (.i c), .d (.i d)] KK QQ ii jj ee ss = ((ShsOk l) ∧ KK (.d (.tup [.sl 1 ((ableR l c d).1.map ic), .i (ableR l c d).2])) ee ss) := eqo15
theorem x9_18 {l : List Ev} {m : Int} {KK : AV → List AV → Sto → Prop} {QQ : Kt} {ii : At KK} {jj : At QQ} {ee : List AV} {ss : Sto} : xC Ct9 18 [.d (.sl 5 (l.map Ev.c)), .d (.i m)] KK QQ ii jj ee ss = (KK (.d (.b (manyB l m))) ee ss) := eq18
theorem x9_18_m1 {l : List Ev} {m : Int} {g1 el1 : Nat} {KK : AV → List AV → Sto → Prop} {QQ : Kt} {ii : At KK} {jj : At QQ} {ee : List AV} {ss : Sto} : xC Ct9 18 [.own g1 el1 5 (l.map Ev.c), .d (.i m)] KK QQ ii jj ee ss = ((.b (manyB l m) : D).flat = true ∧ KK (.d (.b (manyB l m))) ee ss) := eqo18
theorem x9_19  {KK : AV → List AV → Sto → Prop} {QQ : Kt} {ii : At KK} {jj : At QQ} {ee : List AV} {ss : Sto} : xC Ct9 19 [] KK QQ ii jj ee ss = (KK (.d (.b true)) ee ss) := eq19
theorem x9_22 {l : List Ev} {p : Int} {d : Int} {KK : AV → List AV → Sto → Prop} {QQ : Kt} {ii : At KK} {jj : At QQ} {ee : List AV} {ss : Sto} : xC Ct9 22 [.d (.sl 5 (l.map Ev.c)), .d (.i p), .d (.i d)] KK QQ ii jj ee ss = ((ShsOk l ∧ i64 p) ∧ KK (.d (.tup [.sl 1 ((whyR l p d).1.map ic), .i (whyR l p d).2])) ee ss) := eq22
theorem x9_22_m1 {l : List Ev} {p : Int} {d : Int} {g1 el1 : Nat} {KK : AV → List AV → Sto → Prop} {QQ : Kt} {ii : At KK} {jj : At QQ} {ee : List AV} {ss : Sto} : xC Ct9 22 [.own g1 el1 5 (l.map Ev.c), .d (.i p), .d (.i d)] KK QQ ii jj ee ss = ((ShsOk l ∧ i64 p) ∧ KK (.d (.tup [.sl 1 ((whyR l p d).1.map ic), .i (whyR l p d).2])) ee ss) := eqo22
theorem c9 : callable Try.prog 9 = true := by kernel_rfl
theorem pf9 (l : List Ev) (c d : Int) : PF Try.prog 9 [.sl 5 (l.map Ev.c), .i c, .i d] (fun zz => zz = .ret (.b true)) := by
  by_cases cm : manyB l 60 = true
  · refine PF_nil (PF_start (O := O9) Ct9_ok hmix ho9 Try.func9 c9 rfl Try.ntmps9 Try.results9 ?_)
    simp (maxSteps := 4000000) +contextual (disch := first | omega | exact qdb_ok (by kernel_rfl) | exact okb_ok (by kernel_rfl)) only [bw1,bw2,bw3,bw4,bw5,bw6,bw7,bc0,bc1,bc2,bc3,bc4,bc5,bc6,bc7,bb0,setPs,AV.owns,AV.datF,AV.frz,AV.cpy,ifV,isEqB,nilV,nilX,AV.isNilS,AV.isNoRows,wk,dclo,datOf,binIs,addF,AV.isPtr,idxV,AV.isSl,AV.isSlice,AV.rows,ps,pv,extV,extS,AV.outs,AV.outF,packD,AV.dl,fieldV,fieldS,AV.cells?,AV.upr,AV.menc,AV.one,D.one,Value.oneCell',tagOf,AV.isApp,strV,strS,bolV,bolS,slcV,AV.isSlD,asrtS,AV.dcells,D.cells?,stcV,stcS,leafOk,eqDs,eqD,packA,D.val?,↓reduceIte,reduceCtorEq,Nat.reduceAdd,Nat.reduceSub,Nat.reduceMul,List.reduceReplicate,Nat.reduceLeDiff,Nat.reduceLT,Nat.reduceBEq,Nat.reduceEqDiff,Int.reduceNeg,Int.reduceEq,Int.reduceLE,Int.reduceLT,tfb,ctz9,O9_20,O9_25,x9_15,x9_15_m1,x9_18,x9_18_m1,x9_19,x9_22,x9_22_m1,cm]
  obtain ⟨hl, hl2, hsh, h60⟩ := many_no cm
  have hx12 : ∀ {args : List AV} {KK : AV → List AV → Sto → Prop} {QQ : Kt} {ii : At KK} {jj : At QQ} {ee : List AV} {ss : Sto}, xC Ct9 12 args KK QQ ii jj ee ss = sp12 args KK ee ss := id rfl
  by_cases he : (runR l).2.2 = 0
  case neg =>
    have hp := play_err he
    have hb := able_err (c := c) (d := d) he
    have heb : ((runR l).2.2 != 0) = true := by simpa using he
    refine PF_nil (PF_start (O := O9) Ct9_ok hmix ho9 Try.func9 c9 rfl Try.ntmps9 Try.results9 ?_)
    simp (maxSteps := 4000000) +contextual (disch := first | omega | exact qdb_ok (by kernel_rfl) | exact okb_ok (by kernel_rfl)) only [bw1,bw2,bw3,bw4,bw5,bw6,bw7,bc0,bc1,bc2,bc3,bc4,bc5,bc6,bc7,bb0,setPs,AV.owns,AV.datF,AV.frz,AV.cpy,ifV,isEqB,nilV,nilX,AV.isNilS,AV.isNoRows,wk,dclo,datOf,binIs,addF,AV.isPtr,idxV,AV.isSl,AV.isSlice,AV.rows,ps,pv,extV,extS,AV.outs,AV.outF,packD,AV.dl,fieldV,fieldS,AV.cells?,AV.upr,AV.menc,AV.one,D.one,Value.oneCell',tagOf,AV.isApp,strV,strS,bolV,bolS,slcV,AV.isSlD,asrtS,AV.dcells,D.cells?,stcV,stcS,leafOk,eqDs,eqD,packA,D.val?,↓reduceIte,reduceCtorEq,Nat.reduceAdd,Nat.reduceSub,Nat.reduceMul,List.reduceReplicate,Nat.reduceLeDiff,Nat.reduceLT,Nat.reduceBEq,Nat.reduceEqDiff,Int.reduceNeg,Int.reduceEq,Int.reduceLE,Int.reduceLT,tfb,ctz9,O9_20,O9_25,x9_15,x9_15_m1,x9_18,x9_18_m1,x9_19,x9_22,x9_22_m1,cm, hl, hx12, hb]
    refine ⟨(l.map Ev.c, l), rfl, ⟨.refl _, hl⟩, ?_⟩
    simp (maxSteps := 4000000) +contextual (disch := first | omega | exact qdb_ok (by kernel_rfl) | exact okb_ok (by kernel_rfl)) only [bw1,bw2,bw3,bw4,bw5,bw6,bw7,bc0,bc1,bc2,bc3,bc4,bc5,bc6,bc7,bb0,setPs,AV.owns,AV.datF,AV.frz,AV.cpy,ifV,isEqB,nilV,nilX,AV.isNilS,AV.isNoRows,wk,dclo,datOf,binIs,addF,AV.isPtr,idxV,AV.isSl,AV.isSlice,AV.rows,ps,pv,extV,extS,AV.outs,AV.outF,packD,AV.dl,fieldV,fieldS,AV.cells?,AV.upr,AV.menc,AV.one,D.one,Value.oneCell',tagOf,AV.isApp,strV,strS,bolV,bolS,slcV,AV.isSlD,asrtS,AV.dcells,D.cells?,stcV,stcS,leafOk,eqDs,eqD,packA,D.val?,↓reduceIte,reduceCtorEq,Nat.reduceAdd,Nat.reduceSub,Nat.reduceMul,List.reduceReplicate,Nat.reduceLeDiff,Nat.reduceLT,Nat.reduceBEq,Nat.reduceEqDiff,Int.reduceNeg,Int.reduceEq,Int.reduceLE,Int.reduceLT,tfb,ctz9,O9_20,O9_25,x9_15,x9_15_m1,x9_18,x9_18_m1,x9_19,x9_22,x9_22_m1,hp, heb, eq_self, List.length_nil]
  have hp := play_ok he
  have hG := good_of he
  by_cases h2 : inB c 0 255 = true ∧ lateB l d = true
  case neg =>
    have hb := able_rng he h2
    refine PF_nil (PF_start (O := O9) Ct9_ok hmix ho9 Try.func9 c9 rfl Try.ntmps9 Try.results9 ?_)
    simp (maxSteps := 4000000) +contextual (disch := first | omega | exact qdb_ok (by kernel_rfl) | exact okb_ok (by kernel_rfl)) only [bw1,bw2,bw3,bw4,bw5,bw6,bw7,bc0,bc1,bc2,bc3,bc4,bc5,bc6,bc7,bb0,setPs,AV.owns,AV.datF,AV.frz,AV.cpy,ifV,isEqB,nilV,nilX,AV.isNilS,AV.isNoRows,wk,dclo,datOf,binIs,addF,AV.isPtr,idxV,AV.isSl,AV.isSlice,AV.rows,ps,pv,extV,extS,AV.outs,AV.outF,packD,AV.dl,fieldV,fieldS,AV.cells?,AV.upr,AV.menc,AV.one,D.one,Value.oneCell',tagOf,AV.isApp,strV,strS,bolV,bolS,slcV,AV.isSlD,asrtS,AV.dcells,D.cells?,stcV,stcS,leafOk,eqDs,eqD,packA,D.val?,↓reduceIte,reduceCtorEq,Nat.reduceAdd,Nat.reduceSub,Nat.reduceMul,List.reduceReplicate,Nat.reduceLeDiff,Nat.reduceLT,Nat.reduceBEq,Nat.reduceEqDiff,Int.reduceNeg,Int.reduceEq,Int.reduceLE,Int.reduceLT,tfb,ctz9,O9_20,O9_25,x9_15,x9_15_m1,x9_18,x9_18_m1,x9_19,x9_22,x9_22_m1,cm, hl, hx12, hb]
    refine ⟨(l.map Ev.c, l), rfl, ⟨.refl _, hl⟩, ?_⟩
    simp (maxSteps := 4000000) +contextual (disch := first | omega | exact qdb_ok (by kernel_rfl) | exact okb_ok (by kernel_rfl)) only [bw1,bw2,bw3,bw4,bw5,bw6,bw7,bc0,bc1,bc2,bc3,bc4,bc5,bc6,bc7,bb0,setPs,AV.owns,AV.datF,AV.frz,AV.cpy,ifV,isEqB,nilV,nilX,AV.isNilS,AV.isNoRows,wk,dclo,datOf,binIs,addF,AV.isPtr,idxV,AV.isSl,AV.isSlice,AV.rows,ps,pv,extV,extS,AV.outs,AV.outF,packD,AV.dl,fieldV,fieldS,AV.cells?,AV.upr,AV.menc,AV.one,D.one,Value.oneCell',tagOf,AV.isApp,strV,strS,bolV,bolS,slcV,AV.isSlD,asrtS,AV.dcells,D.cells?,stcV,stcS,leafOk,eqDs,eqD,packA,D.val?,↓reduceIte,reduceCtorEq,Nat.reduceAdd,Nat.reduceSub,Nat.reduceMul,List.reduceReplicate,Nat.reduceLeDiff,Nat.reduceLT,Nat.reduceBEq,Nat.reduceEqDiff,Int.reduceNeg,Int.reduceEq,Int.reduceLE,Int.reduceLT,tfb,ctz9,O9_20,O9_25,x9_15,x9_15_m1,x9_18,x9_18_m1,x9_19,x9_22,x9_22_m1,hp, eq_self, List.length_nil, Int.reduceBNe, Int.reduceBEq]
  have hb := able_ok he h2
  have hle := hG.le
  have hl60 : l.length ≤ 60 := by omega
  have hc := inB_iff.1 h2.1
  have hd := late_rng h2.2
  have a1 : ¬ c < 0 := by omega
  have a2 : ¬ 255 < c := by omega
  have a3 : ¬ d < 0 := by omega
  have a4 : ¬ 16384 < d := by omega
  refine PF_nil (PF_start (O := O9) Ct9_ok hmix ho9 Try.func9 c9 rfl Try.ntmps9 Try.results9 ?_)
  simp (maxSteps := 4000000) +contextual (disch := first | omega | exact qdb_ok (by kernel_rfl) | exact okb_ok (by kernel_rfl)) only [bw1,bw2,bw3,bw4,bw5,bw6,bw7,bc0,bc1,bc2,bc3,bc4,bc5,bc6,bc7,bb0,setPs,AV.owns,AV.datF,AV.frz,AV.cpy,ifV,isEqB,nilV,nilX,AV.isNilS,AV.isNoRows,wk,dclo,datOf,binIs,addF,AV.isPtr,idxV,AV.isSl,AV.isSlice,AV.rows,ps,pv,extV,extS,AV.outs,AV.outF,packD,AV.dl,fieldV,fieldS,AV.cells?,AV.upr,AV.menc,AV.one,D.one,Value.oneCell',tagOf,AV.isApp,strV,strS,bolV,bolS,slcV,AV.isSlD,asrtS,AV.dcells,D.cells?,stcV,stcS,leafOk,eqDs,eqD,packA,D.val?,↓reduceIte,reduceCtorEq,Nat.reduceAdd,Nat.reduceSub,Nat.reduceMul,List.reduceReplicate,Nat.reduceLeDiff,Nat.reduceLT,Nat.reduceBEq,Nat.reduceEqDiff,Int.reduceNeg,Int.reduceEq,Int.reduceLE,Int.reduceLT,tfb,ctz9,O9_20,O9_25,x9_15,x9_15_m1,x9_18,x9_18_m1,x9_19,x9_22,x9_22_m1,cm, hl, hx12, hb]
  refine ⟨(l.map Ev.c, l), rfl, ⟨.refl _, hl⟩, ?_⟩
  simp (maxSteps := 4000000) +contextual (disch := first | omega | exact qdb_ok (by kernel_rfl) | exact okb_ok (by kernel_rfl)) only [bw1,bw2,bw3,bw4,bw5,bw6,bw7,bc0,bc1,bc2,bc3,bc4,bc5,bc6,bc7,bb0,setPs,AV.owns,AV.datF,AV.frz,AV.cpy,ifV,isEqB,nilV,nilX,AV.isNilS,AV.isNoRows,wk,dclo,datOf,binIs,addF,AV.isPtr,idxV,AV.isSl,AV.isSlice,AV.rows,ps,pv,extV,extS,AV.outs,AV.outF,packD,AV.dl,fieldV,fieldS,AV.cells?,AV.upr,AV.menc,AV.one,D.one,Value.oneCell',tagOf,AV.isApp,strV,strS,bolV,bolS,slcV,AV.isSlD,asrtS,AV.dcells,D.cells?,stcV,stcS,leafOk,eqDs,eqD,packA,D.val?,↓reduceIte,reduceCtorEq,Nat.reduceAdd,Nat.reduceSub,Nat.reduceMul,List.reduceReplicate,Nat.reduceLeDiff,Nat.reduceLT,Nat.reduceBEq,Nat.reduceEqDiff,Int.reduceNeg,Int.reduceEq,Int.reduceLE,Int.reduceLT,tfb,ctz9,O9_20,O9_25,x9_15,x9_15_m1,x9_18,x9_18_m1,x9_19,x9_22,x9_22_m1,hp, eq_self, Int.reduceBNe, Int.reduceBEq, a1, a2, a3, a4, bne_self_eq_false]
  obtain ⟨fr, hfr⟩ : ∃ fr : Nat → Bool, ∀ i, fr i = !((l.take i).any (sameE d c)) := ⟨_, fun _ => rfl⟩
  have hf0 : fr 0 = true := by rw [hfr]; simp
  have hfs : ∀ i, i < l.length → fr (i + 1) = (fr i && !(sameE d c (l.getD i default))) := fun i hi => by rw [hfr, hfr, take_succ hi, List.any_append]; simp
  have hfl : fr l.length = !(l.any (sameE d c)) := by rw [hfr, List.take_length]
  refine loop_s (O := O9) (tb := 0) Ct9_ok hmix (by kernel_rfl) (σ := Nat) (fun i => [(12, .b (fr i)), (13, .i i)]) (fun i => i ≤ l.length) (fun i => l.length - i) (fun i => i + 1) 0 (Nat.zero_le _) ?_ ?_
  · simp (maxSteps := 4000000) +contextual (disch := first | omega | exact qdb_ok (by kernel_rfl) | exact okb_ok (by kernel_rfl)) only [bw1,bw2,bw3,bw4,bw5,bw6,bw7,bc0,bc1,bc2,bc3,bc4,bc5,bc6,bc7,bb0,setPs,AV.owns,AV.datF,AV.frz,AV.cpy,ifV,isEqB,nilV,nilX,AV.isNilS,AV.isNoRows,wk,dclo,datOf,binIs,addF,AV.isPtr,idxV,AV.isSl,AV.isSlice,AV.rows,ps,pv,extV,extS,AV.outs,AV.outF,packD,AV.dl,fieldV,fieldS,AV.cells?,AV.upr,AV.menc,AV.one,D.one,Value.oneCell',tagOf,AV.isApp,strV,strS,bolV,bolS,slcV,AV.isSlD,asrtS,AV.dcells,D.cells?,stcV,stcS,leafOk,eqDs,eqD,packA,D.val?,↓reduceIte,reduceCtorEq,Nat.reduceAdd,Nat.reduceSub,Nat.reduceMul,List.reduceReplicate,Nat.reduceLeDiff,Nat.reduceLT,Nat.reduceBEq,Nat.reduceEqDiff,Int.reduceNeg,Int.reduceEq,Int.reduceLE,Int.reduceLT,tfb,ctz9,O9_20,O9_25,x9_15,x9_15_m1,x9_18,x9_18_m1,x9_19,x9_22,x9_22_m1,hf0]
    try rfl
  intro i hi
  by_cases hlt : i < l.length
  · have hlt' : (i : Int) < l.length := by omega
    have hs := hfs i hlt
    unfold sameE at hs
    by_cases f1 : fr i = true
    · rw [f1] at hs
      by_cases k6 : (l.getD i default).kind = 6
      · have k6b : ((l.getD i default).kind == 6) = true := by simpa using k6
        by_cases k7 : (l.getD i default).day = d
        · have k7b : ((l.getD i default).day == d) = true := by simpa using k7
          by_cases k8 : (l.getD i default).n = c
          · have k8b : ((l.getD i default).n == c) = true := by simpa using k8
            rw [decide_eq_true k6, decide_eq_true k7, decide_eq_true k8] at hs
            simp (maxSteps := 4000000) +contextual (disch := first | omega | exact qdb_ok (by kernel_rfl) | exact okb_ok (by kernel_rfl)) only [bw1,bw2,bw3,bw4,bw5,bw6,bw7,bc0,bc1,bc2,bc3,bc4,bc5,bc6,bc7,bb0,setPs,AV.owns,AV.datF,AV.frz,AV.cpy,ifV,isEqB,nilV,nilX,AV.isNilS,AV.isNoRows,wk,dclo,datOf,binIs,addF,AV.isPtr,idxV,AV.isSl,AV.isSlice,AV.rows,ps,pv,extV,extS,AV.outs,AV.outF,packD,AV.dl,fieldV,fieldS,AV.cells?,AV.upr,AV.menc,AV.one,D.one,Value.oneCell',tagOf,AV.isApp,strV,strS,bolV,bolS,slcV,AV.isSlD,asrtS,AV.dcells,D.cells?,stcV,stcS,leafOk,eqDs,eqD,packA,D.val?,↓reduceIte,reduceCtorEq,Nat.reduceAdd,Nat.reduceSub,Nat.reduceMul,List.reduceReplicate,Nat.reduceLeDiff,Nat.reduceLT,Nat.reduceBEq,Nat.reduceEqDiff,Int.reduceNeg,Int.reduceEq,Int.reduceLE,Int.reduceLT,tfb,ctz9,O9_20,O9_25,x9_15,x9_15_m1,x9_18,x9_18_m1,x9_19,x9_22,x9_22_m1,eq_self, hlt', f1, k6b, k7b, k8b, hs]
            and_intros <;> first | omega | rfl | trivial
          · have k8b : ((l.getD i default).n == c) = false := by simpa using k8
            rw [decide_eq_true k6, decide_eq_true k7, decide_eq_false k8] at hs
            simp (maxSteps := 4000000) +contextual (disch := first | omega | exact qdb_ok (by kernel_rfl) | exact okb_ok (by kernel_rfl)) only [bw1,bw2,bw3,bw4,bw5,bw6,bw7,bc0,bc1,bc2,bc3,bc4,bc5,bc6,bc7,bb0,setPs,AV.owns,AV.datF,AV.frz,AV.cpy,ifV,isEqB,nilV,nilX,AV.isNilS,AV.isNoRows,wk,dclo,datOf,binIs,addF,AV.isPtr,idxV,AV.isSl,AV.isSlice,AV.rows,ps,pv,extV,extS,AV.outs,AV.outF,packD,AV.dl,fieldV,fieldS,AV.cells?,AV.upr,AV.menc,AV.one,D.one,Value.oneCell',tagOf,AV.isApp,strV,strS,bolV,bolS,slcV,AV.isSlD,asrtS,AV.dcells,D.cells?,stcV,stcS,leafOk,eqDs,eqD,packA,D.val?,↓reduceIte,reduceCtorEq,Nat.reduceAdd,Nat.reduceSub,Nat.reduceMul,List.reduceReplicate,Nat.reduceLeDiff,Nat.reduceLT,Nat.reduceBEq,Nat.reduceEqDiff,Int.reduceNeg,Int.reduceEq,Int.reduceLE,Int.reduceLT,tfb,ctz9,O9_20,O9_25,x9_15,x9_15_m1,x9_18,x9_18_m1,x9_19,x9_22,x9_22_m1,eq_self, hlt', f1, k6b, k7b, k8b, hs]
            and_intros <;> first | omega | rfl | trivial
        · have k7b : ((l.getD i default).day == d) = false := by simpa using k7
          rw [decide_eq_true k6, decide_eq_false k7] at hs
          simp (maxSteps := 4000000) +contextual (disch := first | omega | exact qdb_ok (by kernel_rfl) | exact okb_ok (by kernel_rfl)) only [bw1,bw2,bw3,bw4,bw5,bw6,bw7,bc0,bc1,bc2,bc3,bc4,bc5,bc6,bc7,bb0,setPs,AV.owns,AV.datF,AV.frz,AV.cpy,ifV,isEqB,nilV,nilX,AV.isNilS,AV.isNoRows,wk,dclo,datOf,binIs,addF,AV.isPtr,idxV,AV.isSl,AV.isSlice,AV.rows,ps,pv,extV,extS,AV.outs,AV.outF,packD,AV.dl,fieldV,fieldS,AV.cells?,AV.upr,AV.menc,AV.one,D.one,Value.oneCell',tagOf,AV.isApp,strV,strS,bolV,bolS,slcV,AV.isSlD,asrtS,AV.dcells,D.cells?,stcV,stcS,leafOk,eqDs,eqD,packA,D.val?,↓reduceIte,reduceCtorEq,Nat.reduceAdd,Nat.reduceSub,Nat.reduceMul,List.reduceReplicate,Nat.reduceLeDiff,Nat.reduceLT,Nat.reduceBEq,Nat.reduceEqDiff,Int.reduceNeg,Int.reduceEq,Int.reduceLE,Int.reduceLT,tfb,ctz9,O9_20,O9_25,x9_15,x9_15_m1,x9_18,x9_18_m1,x9_19,x9_22,x9_22_m1,eq_self, hlt', f1, k6b, k7b, hs]
          and_intros <;> first | omega | rfl | trivial
      · have k6b : ((l.getD i default).kind == 6) = false := by simpa using k6
        rw [decide_eq_false k6] at hs
        simp (maxSteps := 4000000) +contextual (disch := first | omega | exact qdb_ok (by kernel_rfl) | exact okb_ok (by kernel_rfl)) only [bw1,bw2,bw3,bw4,bw5,bw6,bw7,bc0,bc1,bc2,bc3,bc4,bc5,bc6,bc7,bb0,setPs,AV.owns,AV.datF,AV.frz,AV.cpy,ifV,isEqB,nilV,nilX,AV.isNilS,AV.isNoRows,wk,dclo,datOf,binIs,addF,AV.isPtr,idxV,AV.isSl,AV.isSlice,AV.rows,ps,pv,extV,extS,AV.outs,AV.outF,packD,AV.dl,fieldV,fieldS,AV.cells?,AV.upr,AV.menc,AV.one,D.one,Value.oneCell',tagOf,AV.isApp,strV,strS,bolV,bolS,slcV,AV.isSlD,asrtS,AV.dcells,D.cells?,stcV,stcS,leafOk,eqDs,eqD,packA,D.val?,↓reduceIte,reduceCtorEq,Nat.reduceAdd,Nat.reduceSub,Nat.reduceMul,List.reduceReplicate,Nat.reduceLeDiff,Nat.reduceLT,Nat.reduceBEq,Nat.reduceEqDiff,Int.reduceNeg,Int.reduceEq,Int.reduceLE,Int.reduceLT,tfb,ctz9,O9_20,O9_25,x9_15,x9_15_m1,x9_18,x9_18_m1,x9_19,x9_22,x9_22_m1,eq_self, hlt', f1, k6b, hs]
        and_intros <;> first | omega | rfl | trivial
    · have f1b : fr i = false := by simpa using f1
      rw [f1b] at hs
      simp (maxSteps := 4000000) +contextual (disch := first | omega | exact qdb_ok (by kernel_rfl) | exact okb_ok (by kernel_rfl)) only [bw1,bw2,bw3,bw4,bw5,bw6,bw7,bc0,bc1,bc2,bc3,bc4,bc5,bc6,bc7,bb0,setPs,AV.owns,AV.datF,AV.frz,AV.cpy,ifV,isEqB,nilV,nilX,AV.isNilS,AV.isNoRows,wk,dclo,datOf,binIs,addF,AV.isPtr,idxV,AV.isSl,AV.isSlice,AV.rows,ps,pv,extV,extS,AV.outs,AV.outF,packD,AV.dl,fieldV,fieldS,AV.cells?,AV.upr,AV.menc,AV.one,D.one,Value.oneCell',tagOf,AV.isApp,strV,strS,bolV,bolS,slcV,AV.isSlD,asrtS,AV.dcells,D.cells?,stcV,stcS,leafOk,eqDs,eqD,packA,D.val?,↓reduceIte,reduceCtorEq,Nat.reduceAdd,Nat.reduceSub,Nat.reduceMul,List.reduceReplicate,Nat.reduceLeDiff,Nat.reduceLT,Nat.reduceBEq,Nat.reduceEqDiff,Int.reduceNeg,Int.reduceEq,Int.reduceLE,Int.reduceLT,tfb,ctz9,O9_20,O9_25,x9_15,x9_15_m1,x9_18,x9_18_m1,x9_19,x9_22,x9_22_m1,eq_self, hlt', f1b, hs]
      and_intros <;> first | omega | rfl | trivial
  obtain rfl : i = l.length := by omega
  simp (maxSteps := 4000000) +contextual (disch := first | omega | exact qdb_ok (by kernel_rfl) | exact okb_ok (by kernel_rfl)) only [bw1,bw2,bw3,bw4,bw5,bw6,bw7,bc0,bc1,bc2,bc3,bc4,bc5,bc6,bc7,bb0,setPs,AV.owns,AV.datF,AV.frz,AV.cpy,ifV,isEqB,nilV,nilX,AV.isNilS,AV.isNoRows,wk,dclo,datOf,binIs,addF,AV.isPtr,idxV,AV.isSl,AV.isSlice,AV.rows,ps,pv,extV,extS,AV.outs,AV.outF,packD,AV.dl,fieldV,fieldS,AV.cells?,AV.upr,AV.menc,AV.one,D.one,Value.oneCell',tagOf,AV.isApp,strV,strS,bolV,bolS,slcV,AV.isSlD,asrtS,AV.dcells,D.cells?,stcV,stcS,leafOk,eqDs,eqD,packA,D.val?,↓reduceIte,reduceCtorEq,Nat.reduceAdd,Nat.reduceSub,Nat.reduceMul,List.reduceReplicate,Nat.reduceLeDiff,Nat.reduceLT,Nat.reduceBEq,Nat.reduceEqDiff,Int.reduceNeg,Int.reduceEq,Int.reduceLE,Int.reduceLT,tfb,ctz9,O9_20,O9_25,x9_15,x9_15_m1,x9_18,x9_18_m1,x9_19,x9_22,x9_22_m1,eq_self, Int.lt_irrefl]
  have hI := hG.inv hl.2
  have hlenM : (runR l).1.mem.length ≤ 256 := by have := hI.1.1; omega
  have hable := kN_le (s := (runR l).1) (c := c) (d := d) (Nat.le_refl (runR l).1.mem.length)
  have hkfull : kN (runR l).1 c d (runR l).1.mem.length = (ableL (runR l).1 c d).length := rfl
  have hnil : ∀ x : Ev, NilRs (l.map Ev.c ++ [x.c]) ((l ++ ([x] : List Ev)).map Ev.c) := fun x => by rw [List.map_append]; exact .refl _
  have hshq : ∀ x : Ev, x.sheet.length ≤ 100 → ShsOk (l ++ ([x] : List Ev)) := fun x hx => shs_app hl (by simp) (by intro y hy; simp at hy; rw [hy]; exact hx)
  have hyes := fun i h1 h2 => able_yes (s := (runR l).1) (c := c) (d := d) (i := i) h1 h2
  have hno := fun i h1 h2 h3 => able_no hG.srt (c := c) (d := d) (i := i) h1 h2 h3
  have hky := fun i h1 h2 => kN_yes (s := (runR l).1) (c := c) (d := d) (i := i) h1 h2
  have hkn0 := fun i h1 h2 => kN_no (s := (runR l).1) (c := c) (d := d) (i := i) h1 h2
  have hkle := fun i h1 => kN_le (s := (runR l).1) (c := c) (d := d) (i := i) h1
  have hk0 : kN (runR l).1 c d 0 = 0 := kN_zero
  have hmoM : ∀ i, i < (runR l).1.mem.length → mo (runR l).1 ((runR l).1.mem.getD i default).person = some ((runR l).1.mem.getD i default) := fun i h1 => (mo_some hG.srt).2 ⟨by rw [at_lt h1]; exact List.getElem_mem _, rfl⟩
  have hmr := fun sh g1 g2 g3 => match_run2 hG (by omega) hc h2.2 (sh := sh) g1 g2 g3
  have hwhy := fun p m g1 => why_at hG (p := p) (d := d) (m := m) g1 h2.2
  have hrngM : ∀ i, i < (runR l).1.mem.length → 0 ≤ ((runR l).1.mem.getD i default).person ∧ ((runR l).1.mem.getD i default).person ≤ 4095 := fun i h1 => mem_rng hG (hmoM i h1)
  have hab := fun q h1 => mem_able hG.srt (c := c) (d := d) (q := q) h1
  have hpw := able_pw hG.srt (c := c) (d := d)
  have hrngA : ∀ q ∈ ableL (runR l).1 c d, 0 ≤ q ∧ q ≤ 4095 := fun q hq => by obtain ⟨m, h1, _⟩ := hab q hq; exact mem_rng hG h1
  have hevs := hG.evs
  rw [hevs] at hyes hno hky hkn0 hab
  generalize ableL (runR l).1 c d = A at *
  generalize kN (runR l).1 c d = KN at *
  generalize (runR l).1.mem = M at *
  refine loop_s (O := O9) (tb := 0) Ct9_ok hmix (by kernel_rfl) (σ := Nat) (fun i => [(14, .i (KN i : Int)), (15, .i i)]) (fun i => i ≤ M.length) (fun i => M.length - i) (fun i => i + 1) 0 (Nat.zero_le _) ?_ ?_
  · simp (maxSteps := 4000000) +contextual (disch := first | omega | exact qdb_ok (by kernel_rfl) | exact okb_ok (by kernel_rfl)) only [bw1,bw2,bw3,bw4,bw5,bw6,bw7,bc0,bc1,bc2,bc3,bc4,bc5,bc6,bc7,bb0,setPs,AV.owns,AV.datF,AV.frz,AV.cpy,ifV,isEqB,nilV,nilX,AV.isNilS,AV.isNoRows,wk,dclo,datOf,binIs,addF,AV.isPtr,idxV,AV.isSl,AV.isSlice,AV.rows,ps,pv,extV,extS,AV.outs,AV.outF,packD,AV.dl,fieldV,fieldS,AV.cells?,AV.upr,AV.menc,AV.one,D.one,Value.oneCell',tagOf,AV.isApp,strV,strS,bolV,bolS,slcV,AV.isSlD,asrtS,AV.dcells,D.cells?,stcV,stcS,leafOk,eqDs,eqD,packA,D.val?,↓reduceIte,reduceCtorEq,Nat.reduceAdd,Nat.reduceSub,Nat.reduceMul,List.reduceReplicate,Nat.reduceLeDiff,Nat.reduceLT,Nat.reduceBEq,Nat.reduceEqDiff,Int.reduceNeg,Int.reduceEq,Int.reduceLE,Int.reduceLT,tfb,ctz9,O9_20,O9_25,x9_15,x9_15_m1,x9_18,x9_18_m1,x9_19,x9_22,x9_22_m1,hk0]
    try rfl
  intro i hi
  by_cases hlt : i < M.length
  case neg =>
    obtain rfl : i = M.length := by omega
    have hkn : KN M.length ≤ 256 := by omega
    by_cases hF : l.any (sameE d c) = true
    · have hfF : fr l.length = false := by rw [hfl, hF]; rfl
      simp (maxSteps := 4000000) +contextual (disch := first | omega | exact qdb_ok (by kernel_rfl) | exact okb_ok (by kernel_rfl)) only [bw1,bw2,bw3,bw4,bw5,bw6,bw7,bc0,bc1,bc2,bc3,bc4,bc5,bc6,bc7,bb0,setPs,AV.owns,AV.datF,AV.frz,AV.cpy,ifV,isEqB,nilV,nilX,AV.isNilS,AV.isNoRows,wk,dclo,datOf,binIs,addF,AV.isPtr,idxV,AV.isSl,AV.isSlice,AV.rows,ps,pv,extV,extS,AV.outs,AV.outF,packD,AV.dl,fieldV,fieldS,AV.cells?,AV.upr,AV.menc,AV.one,D.one,Value.oneCell',tagOf,AV.isApp,strV,strS,bolV,bolS,slcV,AV.isSlD,asrtS,AV.dcells,D.cells?,stcV,stcS,leafOk,eqDs,eqD,packA,D.val?,↓reduceIte,reduceCtorEq,Nat.reduceAdd,Nat.reduceSub,Nat.reduceMul,List.reduceReplicate,Nat.reduceLeDiff,Nat.reduceLT,Nat.reduceBEq,Nat.reduceEqDiff,Int.reduceNeg,Int.reduceEq,Int.reduceLE,Int.reduceLT,tfb,ctz9,O9_20,O9_25,x9_15,x9_15_m1,x9_18,x9_18_m1,x9_19,x9_22,x9_22_m1,eq_self, Int.lt_irrefl, hkfull, bne_self_eq_false, hfF]
    have hF' : l.any (sameE d c) = false := by simpa using hF
    have hfF : fr l.length = true := by rw [hfl, hF']; rfl
    by_cases hA : 20 < (A.length : Int)
    · simp (maxSteps := 4000000) +contextual (disch := first | omega | exact qdb_ok (by kernel_rfl) | exact okb_ok (by kernel_rfl)) only [bw1,bw2,bw3,bw4,bw5,bw6,bw7,bc0,bc1,bc2,bc3,bc4,bc5,bc6,bc7,bb0,setPs,AV.owns,AV.datF,AV.frz,AV.cpy,ifV,isEqB,nilV,nilX,AV.isNilS,AV.isNoRows,wk,dclo,datOf,binIs,addF,AV.isPtr,idxV,AV.isSl,AV.isSlice,AV.rows,ps,pv,extV,extS,AV.outs,AV.outF,packD,AV.dl,fieldV,fieldS,AV.cells?,AV.upr,AV.menc,AV.one,D.one,Value.oneCell',tagOf,AV.isApp,strV,strS,bolV,bolS,slcV,AV.isSlD,asrtS,AV.dcells,D.cells?,stcV,stcS,leafOk,eqDs,eqD,packA,D.val?,↓reduceIte,reduceCtorEq,Nat.reduceAdd,Nat.reduceSub,Nat.reduceMul,List.reduceReplicate,Nat.reduceLeDiff,Nat.reduceLT,Nat.reduceBEq,Nat.reduceEqDiff,Int.reduceNeg,Int.reduceEq,Int.reduceLE,Int.reduceLT,tfb,ctz9,O9_20,O9_25,x9_15,x9_15_m1,x9_18,x9_18_m1,x9_19,x9_22,x9_22_m1,eq_self, Int.lt_irrefl, hkfull, bne_self_eq_false, hfF, hA]
    obtain ⟨_, m2⟩ := hmr A hrngA hpw (by omega)
    have hR := (play3 (l ++ ([⟨d, 6, 0, c, A⟩] : List Ev))).trans ((m2 hF').2 hab)
    simp (maxSteps := 4000000) +contextual (disch := first | omega | exact qdb_ok (by kernel_rfl) | exact okb_ok (by kernel_rfl)) only [bw1,bw2,bw3,bw4,bw5,bw6,bw7,bc0,bc1,bc2,bc3,bc4,bc5,bc6,bc7,bb0,setPs,AV.owns,AV.datF,AV.frz,AV.cpy,ifV,isEqB,nilV,nilX,AV.isNilS,AV.isNoRows,wk,dclo,datOf,binIs,addF,AV.isPtr,idxV,AV.isSl,AV.isSlice,AV.rows,ps,pv,extV,extS,AV.outs,AV.outF,packD,AV.dl,fieldV,fieldS,AV.cells?,AV.upr,AV.menc,AV.one,D.one,Value.oneCell',tagOf,AV.isApp,strV,strS,bolV,bolS,slcV,AV.isSlD,asrtS,AV.dcells,D.cells?,stcV,stcS,leafOk,eqDs,eqD,packA,D.val?,↓reduceIte,reduceCtorEq,Nat.reduceAdd,Nat.reduceSub,Nat.reduceMul,List.reduceReplicate,Nat.reduceLeDiff,Nat.reduceLT,Nat.reduceBEq,Nat.reduceEqDiff,Int.reduceNeg,Int.reduceEq,Int.reduceLE,Int.reduceLT,tfb,ctz9,O9_20,O9_25,x9_15,x9_15_m1,x9_18,x9_18_m1,x9_19,x9_22,x9_22_m1,eq_self, Int.lt_irrefl, hkfull, bne_self_eq_false, hfF, hA]
    and_intros
    any_goals omega
    refine ⟨(_, l ++ ([⟨d, 6, 0, c, A⟩] : List Ev)), rfl, ⟨hnil ⟨d, 6, 0, c, A⟩, hshq ⟨d, 6, 0, c, A⟩ (by simp only; omega)⟩, ?_⟩
    simp (maxSteps := 4000000) +contextual (disch := first | omega | exact qdb_ok (by kernel_rfl) | exact okb_ok (by kernel_rfl)) only [bw1,bw2,bw3,bw4,bw5,bw6,bw7,bc0,bc1,bc2,bc3,bc4,bc5,bc6,bc7,bb0,setPs,AV.owns,AV.datF,AV.frz,AV.cpy,ifV,isEqB,nilV,nilX,AV.isNilS,AV.isNoRows,wk,dclo,datOf,binIs,addF,AV.isPtr,idxV,AV.isSl,AV.isSlice,AV.rows,ps,pv,extV,extS,AV.outs,AV.outF,packD,AV.dl,fieldV,fieldS,AV.cells?,AV.upr,AV.menc,AV.one,D.one,Value.oneCell',tagOf,AV.isApp,strV,strS,bolV,bolS,slcV,AV.isSlD,asrtS,AV.dcells,D.cells?,stcV,stcS,leafOk,eqDs,eqD,packA,D.val?,↓reduceIte,reduceCtorEq,Nat.reduceAdd,Nat.reduceSub,Nat.reduceMul,List.reduceReplicate,Nat.reduceLeDiff,Nat.reduceLT,Nat.reduceBEq,Nat.reduceEqDiff,Int.reduceNeg,Int.reduceEq,Int.reduceLE,Int.reduceLT,tfb,ctz9,O9_20,O9_25,x9_15,x9_15_m1,x9_18,x9_18_m1,x9_19,x9_22,x9_22_m1,eq_self, hR, Int.reduceBEq, beq_self_eq_true]
  have hlt' : (i : Int) < M.length := by omega
  have hki := hkle i (by omega)
  by_cases q1 : (M.getD i default).club = c
  case neg =>
    have q1b : ((M.getD i default).club != c) = true := by simpa using q1
    have hkn := hkn0 i hlt (by unfold ableP; rw [decide_eq_false q1]; rfl)
    simp (maxSteps := 4000000) +contextual (disch := first | omega | exact qdb_ok (by kernel_rfl) | exact okb_ok (by kernel_rfl)) only [bw1,bw2,bw3,bw4,bw5,bw6,bw7,bc0,bc1,bc2,bc3,bc4,bc5,bc6,bc7,bb0,setPs,AV.owns,AV.datF,AV.frz,AV.cpy,ifV,isEqB,nilV,nilX,AV.isNilS,AV.isNoRows,wk,dclo,datOf,binIs,addF,AV.isPtr,idxV,AV.isSl,AV.isSlice,AV.rows,ps,pv,extV,extS,AV.outs,AV.outF,packD,AV.dl,fieldV,fieldS,AV.cells?,AV.upr,AV.menc,AV.one,D.one,Value.oneCell',tagOf,AV.isApp,strV,strS,bolV,bolS,slcV,AV.isSlD,asrtS,AV.dcells,D.cells?,stcV,stcS,leafOk,eqDs,eqD,packA,D.val?,↓reduceIte,reduceCtorEq,Nat.reduceAdd,Nat.reduceSub,Nat.reduceMul,List.reduceReplicate,Nat.reduceLeDiff,Nat.reduceLT,Nat.reduceBEq,Nat.reduceEqDiff,Int.reduceNeg,Int.reduceEq,Int.reduceLE,Int.reduceLT,tfb,ctz9,O9_20,O9_25,x9_15,x9_15_m1,x9_18,x9_18_m1,x9_19,x9_22,x9_22_m1,eq_self, hlt', q1b]
    and_intros <;> first | omega | rfl | trivial | (rw [hkn])
  have q1b : ((M.getD i default).club != c) = false := by simpa using q1
  have hw := hwhy _ _ (hmoM i hlt)
  have hri := hrngM i hlt
  obtain ⟨m1, m2⟩ := hmr [(M.getD i default).person] (by intro q hq; simp at hq; rw [hq]; exact hri) (List.pairwise_singleton _ _) (by simp)
  have hp3 := play3 (l ++ ([⟨d, 6, 0, c, [(M.getD i default).person]⟩] : List Ev))
  have hml : (M.length : Int) ≤ 256 := by omega
  have hi64 : i64 (M.getD i default).person := i64_of (by omega)
  have hkn1 : (KN i : Int) ≤ 256 := by omega
  have hm1 : ∀ q ∈ ([(M.getD i default).person] : List Int), ∃ m, mo (runR l).1 q = some m ∧ m.club = c ∧ (why l m d = [] ↔ why l (M.getD i default) d = []) := fun q hq => by
    simp at hq; rw [hq]; exact ⟨_, hmoM i hlt, q1, Iff.rfl⟩
  by_cases hF : l.any (sameE d c) = true
  case' pos =>
    have hfF : fr l.length = false := by rw [hfl, hF]; rfl
    have hR := hp3.trans (m1 hF)
  case' neg =>
    have hF' : l.any (sameE d c) = false := by simpa using hF
    have hfF : fr l.length = true := by rw [hfl, hF']; rfl
    have hR0 := m2 hF'
  case pos =>
    by_cases tw : why l (M.getD i default) d = []
    · have hap : ableP l c d (M.getD i default) = true := by unfold ableP; rw [decide_eq_true q1, decide_eq_true tw]; rfl
      obtain ⟨y1, y2⟩ := hyes i hlt hap
      have hkn := hky i hlt hap
      have y1' : (KN i : Int) < A.length := by omega
      simp (maxSteps := 4000000) +contextual (disch := first | omega | exact qdb_ok (by kernel_rfl) | exact okb_ok (by kernel_rfl)) only [bw1,bw2,bw3,bw4,bw5,bw6,bw7,bc0,bc1,bc2,bc3,bc4,bc5,bc6,bc7,bb0,setPs,AV.owns,AV.datF,AV.frz,AV.cpy,ifV,isEqB,nilV,nilX,AV.isNilS,AV.isNoRows,wk,dclo,datOf,binIs,addF,AV.isPtr,idxV,AV.isSl,AV.isSlice,AV.rows,ps,pv,extV,extS,AV.outs,AV.outF,packD,AV.dl,fieldV,fieldS,AV.cells?,AV.upr,AV.menc,AV.one,D.one,Value.oneCell',tagOf,AV.isApp,strV,strS,bolV,bolS,slcV,AV.isSlD,asrtS,AV.dcells,D.cells?,stcV,stcS,leafOk,eqDs,eqD,packA,D.val?,↓reduceIte,reduceCtorEq,Nat.reduceAdd,Nat.reduceSub,Nat.reduceMul,List.reduceReplicate,Nat.reduceLeDiff,Nat.reduceLT,Nat.reduceBEq,Nat.reduceEqDiff,Int.reduceNeg,Int.reduceEq,Int.reduceLE,Int.reduceLT,tfb,ctz9,O9_20,O9_25,x9_15,x9_15_m1,x9_18,x9_18_m1,x9_19,x9_22,x9_22_m1,eq_self, hlt', q1b, hw, hl, hi64, bne_self_eq_false, beq_self_eq_true, Int.reduceBNe, Int.reduceBEq, hfF, y1', y2, tw, List.length_nil]
      and_intros
      any_goals omega
      refine ⟨(_, l ++ ([⟨d, 6, 0, c, [(M.getD i default).person]⟩] : List Ev)), rfl, ⟨hnil ⟨d, 6, 0, c, [(M.getD i default).person]⟩, hshq ⟨d, 6, 0, c, [(M.getD i default).person]⟩ (by simp)⟩, ?_⟩
      simp (maxSteps := 4000000) +contextual (disch := first | omega | exact qdb_ok (by kernel_rfl) | exact okb_ok (by kernel_rfl)) only [bw1,bw2,bw3,bw4,bw5,bw6,bw7,bc0,bc1,bc2,bc3,bc4,bc5,bc6,bc7,bb0,setPs,AV.owns,AV.datF,AV.frz,AV.cpy,ifV,isEqB,nilV,nilX,AV.isNilS,AV.isNoRows,wk,dclo,datOf,binIs,addF,AV.isPtr,idxV,AV.isSl,AV.isSlice,AV.rows,ps,pv,extV,extS,AV.outs,AV.outF,packD,AV.dl,fieldV,fieldS,AV.cells?,AV.upr,AV.menc,AV.one,D.one,Value.oneCell',tagOf,AV.isApp,strV,strS,bolV,bolS,slcV,AV.isSlD,asrtS,AV.dcells,D.cells?,stcV,stcS,leafOk,eqDs,eqD,packA,D.val?,↓reduceIte,reduceCtorEq,Nat.reduceAdd,Nat.reduceSub,Nat.reduceMul,List.reduceReplicate,Nat.reduceLeDiff,Nat.reduceLT,Nat.reduceBEq,Nat.reduceEqDiff,Int.reduceNeg,Int.reduceEq,Int.reduceLE,Int.reduceLT,tfb,ctz9,O9_20,O9_25,x9_15,x9_15_m1,x9_18,x9_18_m1,x9_19,x9_22,x9_22_m1,eq_self, bne_self_eq_false, beq_self_eq_true, Int.reduceBNe, Int.reduceBEq, hfF, y1', y2, tw, List.length_nil, hR]
      and_intros <;> first | omega | rfl | trivial | (rw [hkn]; rfl) | (rw [hkn])
    have hap : ableP l c d (M.getD i default) = false := by unfold ableP; rw [decide_eq_false tw, Bool.and_false]
    have hkn := hkn0 i hlt hap
    have twb := len_ne tw
    by_cases y1 : KN i < A.length
    · have y1' : (KN i : Int) < A.length := by omega
      have y2 : (A.getD (KN i) default == (M.getD i default).person) = false := by simpa using hno i hlt hap y1
      simp (maxSteps := 4000000) +contextual (disch := first | omega | exact qdb_ok (by kernel_rfl) | exact okb_ok (by kernel_rfl)) only [bw1,bw2,bw3,bw4,bw5,bw6,bw7,bc0,bc1,bc2,bc3,bc4,bc5,bc6,bc7,bb0,setPs,AV.owns,AV.datF,AV.frz,AV.cpy,ifV,isEqB,nilV,nilX,AV.isNilS,AV.isNoRows,wk,dclo,datOf,binIs,addF,AV.isPtr,idxV,AV.isSl,AV.isSlice,AV.rows,ps,pv,extV,extS,AV.outs,AV.outF,packD,AV.dl,fieldV,fieldS,AV.cells?,AV.upr,AV.menc,AV.one,D.one,Value.oneCell',tagOf,AV.isApp,strV,strS,bolV,bolS,slcV,AV.isSlD,asrtS,AV.dcells,D.cells?,stcV,stcS,leafOk,eqDs,eqD,packA,D.val?,↓reduceIte,reduceCtorEq,Nat.reduceAdd,Nat.reduceSub,Nat.reduceMul,List.reduceReplicate,Nat.reduceLeDiff,Nat.reduceLT,Nat.reduceBEq,Nat.reduceEqDiff,Int.reduceNeg,Int.reduceEq,Int.reduceLE,Int.reduceLT,tfb,ctz9,O9_20,O9_25,x9_15,x9_15_m1,x9_18,x9_18_m1,x9_19,x9_22,x9_22_m1,eq_self, hlt', q1b, hw, hl, hi64, bne_self_eq_false, beq_self_eq_true, Int.reduceBNe, Int.reduceBEq, hfF, y1', y2, twb]
      and_intros
      any_goals omega
      refine ⟨(_, l ++ ([⟨d, 6, 0, c, [(M.getD i default).person]⟩] : List Ev)), rfl, ⟨hnil ⟨d, 6, 0, c, [(M.getD i default).person]⟩, hshq ⟨d, 6, 0, c, [(M.getD i default).person]⟩ (by simp)⟩, ?_⟩
      simp (maxSteps := 4000000) +contextual (disch := first | omega | exact qdb_ok (by kernel_rfl) | exact okb_ok (by kernel_rfl)) only [bw1,bw2,bw3,bw4,bw5,bw6,bw7,bc0,bc1,bc2,bc3,bc4,bc5,bc6,bc7,bb0,setPs,AV.owns,AV.datF,AV.frz,AV.cpy,ifV,isEqB,nilV,nilX,AV.isNilS,AV.isNoRows,wk,dclo,datOf,binIs,addF,AV.isPtr,idxV,AV.isSl,AV.isSlice,AV.rows,ps,pv,extV,extS,AV.outs,AV.outF,packD,AV.dl,fieldV,fieldS,AV.cells?,AV.upr,AV.menc,AV.one,D.one,Value.oneCell',tagOf,AV.isApp,strV,strS,bolV,bolS,slcV,AV.isSlD,asrtS,AV.dcells,D.cells?,stcV,stcS,leafOk,eqDs,eqD,packA,D.val?,↓reduceIte,reduceCtorEq,Nat.reduceAdd,Nat.reduceSub,Nat.reduceMul,List.reduceReplicate,Nat.reduceLeDiff,Nat.reduceLT,Nat.reduceBEq,Nat.reduceEqDiff,Int.reduceNeg,Int.reduceEq,Int.reduceLE,Int.reduceLT,tfb,ctz9,O9_20,O9_25,x9_15,x9_15_m1,x9_18,x9_18_m1,x9_19,x9_22,x9_22_m1,eq_self, bne_self_eq_false, beq_self_eq_true, Int.reduceBNe, Int.reduceBEq, hfF, y1', y2, twb, hR]
      and_intros <;> first | omega | rfl | trivial | (rw [hkn]; rfl) | (rw [hkn])
    · have y1' : ¬ (KN i : Int) < A.length := by omega
      simp (maxSteps := 4000000) +contextual (disch := first | omega | exact qdb_ok (by kernel_rfl) | exact okb_ok (by kernel_rfl)) only [bw1,bw2,bw3,bw4,bw5,bw6,bw7,bc0,bc1,bc2,bc3,bc4,bc5,bc6,bc7,bb0,setPs,AV.owns,AV.datF,AV.frz,AV.cpy,ifV,isEqB,nilV,nilX,AV.isNilS,AV.isNoRows,wk,dclo,datOf,binIs,addF,AV.isPtr,idxV,AV.isSl,AV.isSlice,AV.rows,ps,pv,extV,extS,AV.outs,AV.outF,packD,AV.dl,fieldV,fieldS,AV.cells?,AV.upr,AV.menc,AV.one,D.one,Value.oneCell',tagOf,AV.isApp,strV,strS,bolV,bolS,slcV,AV.isSlD,asrtS,AV.dcells,D.cells?,stcV,stcS,leafOk,eqDs,eqD,packA,D.val?,↓reduceIte,reduceCtorEq,Nat.reduceAdd,Nat.reduceSub,Nat.reduceMul,List.reduceReplicate,Nat.reduceLeDiff,Nat.reduceLT,Nat.reduceBEq,Nat.reduceEqDiff,Int.reduceNeg,Int.reduceEq,Int.reduceLE,Int.reduceLT,tfb,ctz9,O9_20,O9_25,x9_15,x9_15_m1,x9_18,x9_18_m1,x9_19,x9_22,x9_22_m1,eq_self, hlt', q1b, hw, hl, hi64, bne_self_eq_false, beq_self_eq_true, Int.reduceBNe, Int.reduceBEq, hfF, y1', twb]
      and_intros
      any_goals omega
      refine ⟨(_, l ++ ([⟨d, 6, 0, c, [(M.getD i default).person]⟩] : List Ev)), rfl, ⟨hnil ⟨d, 6, 0, c, [(M.getD i default).person]⟩, hshq ⟨d, 6, 0, c, [(M.getD i default).person]⟩ (by simp)⟩, ?_⟩
      simp (maxSteps := 4000000) +contextual (disch := first | omega | exact qdb_ok (by kernel_rfl) | exact okb_ok (by kernel_rfl)) only [bw1,bw2,bw3,bw4,bw5,bw6,bw7,bc0,bc1,bc2,bc3,bc4,bc5,bc6,bc7,bb0,setPs,AV.owns,AV.datF,AV.frz,AV.cpy,ifV,isEqB,nilV,nilX,AV.isNilS,AV.isNoRows,wk,dclo,datOf,binIs,addF,AV.isPtr,idxV,AV.isSl,AV.isSlice,AV.rows,ps,pv,extV,extS,AV.outs,AV.outF,packD,AV.dl,fieldV,fieldS,AV.cells?,AV.upr,AV.menc,AV.one,D.one,Value.oneCell',tagOf,AV.isApp,strV,strS,bolV,bolS,slcV,AV.isSlD,asrtS,AV.dcells,D.cells?,stcV,stcS,leafOk,eqDs,eqD,packA,D.val?,↓reduceIte,reduceCtorEq,Nat.reduceAdd,Nat.reduceSub,Nat.reduceMul,List.reduceReplicate,Nat.reduceLeDiff,Nat.reduceLT,Nat.reduceBEq,Nat.reduceEqDiff,Int.reduceNeg,Int.reduceEq,Int.reduceLE,Int.reduceLT,tfb,ctz9,O9_20,O9_25,x9_15,x9_15_m1,x9_18,x9_18_m1,x9_19,x9_22,x9_22_m1,eq_self, bne_self_eq_false, beq_self_eq_true, Int.reduceBNe, Int.reduceBEq, hfF, y1', twb, hR]
      and_intros <;> first | omega | rfl | trivial | (rw [hkn]; rfl) | (rw [hkn])
  by_cases tw : why l (M.getD i default) d = []
  · have hap : ableP l c d (M.getD i default) = true := by unfold ableP; rw [decide_eq_true q1, decide_eq_true tw]; rfl
    obtain ⟨y1, y2⟩ := hyes i hlt hap
    have hkn := hky i hlt hap
    have y1' : (KN i : Int) < A.length := by omega
    have hR := hp3.trans (hR0.2 (fun q hq => by simp at hq; rw [hq]; exact ⟨_, hmoM i hlt, q1, tw⟩))
    simp (maxSteps := 4000000) +contextual (disch := first | omega | exact qdb_ok (by kernel_rfl) | exact okb_ok (by kernel_rfl)) only [bw1,bw2,bw3,bw4,bw5,bw6,bw7,bc0,bc1,bc2,bc3,bc4,bc5,bc6,bc7,bb0,setPs,AV.owns,AV.datF,AV.frz,AV.cpy,ifV,isEqB,nilV,nilX,AV.isNilS,AV.isNoRows,wk,dclo,datOf,binIs,addF,AV.isPtr,idxV,AV.isSl,AV.isSlice,AV.rows,ps,pv,extV,extS,AV.outs,AV.outF,packD,AV.dl,fieldV,fieldS,AV.cells?,AV.upr,AV.menc,AV.one,D.one,Value.oneCell',tagOf,AV.isApp,strV,strS,bolV,bolS,slcV,AV.isSlD,asrtS,AV.dcells,D.cells?,stcV,stcS,leafOk,eqDs,eqD,packA,D.val?,↓reduceIte,reduceCtorEq,Nat.reduceAdd,Nat.reduceSub,Nat.reduceMul,List.reduceReplicate,Nat.reduceLeDiff,Nat.reduceLT,Nat.reduceBEq,Nat.reduceEqDiff,Int.reduceNeg,Int.reduceEq,Int.reduceLE,Int.reduceLT,tfb,ctz9,O9_20,O9_25,x9_15,x9_15_m1,x9_18,x9_18_m1,x9_19,x9_22,x9_22_m1,eq_self, hlt', q1b, hw, hl, hi64, bne_self_eq_false, beq_self_eq_true, Int.reduceBNe, Int.reduceBEq, hfF, y1', y2, tw, List.length_nil]
    and_intros
    any_goals omega
    refine ⟨(_, l ++ ([⟨d, 6, 0, c, [(M.getD i default).person]⟩] : List Ev)), rfl, ⟨hnil ⟨d, 6, 0, c, [(M.getD i default).person]⟩, hshq ⟨d, 6, 0, c, [(M.getD i default).person]⟩ (by simp)⟩, ?_⟩
    simp (maxSteps := 4000000) +contextual (disch := first | omega | exact qdb_ok (by kernel_rfl) | exact okb_ok (by kernel_rfl)) only [bw1,bw2,bw3,bw4,bw5,bw6,bw7,bc0,bc1,bc2,bc3,bc4,bc5,bc6,bc7,bb0,setPs,AV.owns,AV.datF,AV.frz,AV.cpy,ifV,isEqB,nilV,nilX,AV.isNilS,AV.isNoRows,wk,dclo,datOf,binIs,addF,AV.isPtr,idxV,AV.isSl,AV.isSlice,AV.rows,ps,pv,extV,extS,AV.outs,AV.outF,packD,AV.dl,fieldV,fieldS,AV.cells?,AV.upr,AV.menc,AV.one,D.one,Value.oneCell',tagOf,AV.isApp,strV,strS,bolV,bolS,slcV,AV.isSlD,asrtS,AV.dcells,D.cells?,stcV,stcS,leafOk,eqDs,eqD,packA,D.val?,↓reduceIte,reduceCtorEq,Nat.reduceAdd,Nat.reduceSub,Nat.reduceMul,List.reduceReplicate,Nat.reduceLeDiff,Nat.reduceLT,Nat.reduceBEq,Nat.reduceEqDiff,Int.reduceNeg,Int.reduceEq,Int.reduceLE,Int.reduceLT,tfb,ctz9,O9_20,O9_25,x9_15,x9_15_m1,x9_18,x9_18_m1,x9_19,x9_22,x9_22_m1,eq_self, bne_self_eq_false, beq_self_eq_true, Int.reduceBNe, Int.reduceBEq, hfF, y1', y2, tw, List.length_nil, hR]
    and_intros <;> first | omega | rfl | trivial | (rw [hkn]; rfl) | (rw [hkn])
  have hap : ableP l c d (M.getD i default) = false := by unfold ableP; rw [decide_eq_false tw, Bool.and_false]
  have hkn := hkn0 i hlt hap
  have twb := len_ne tw
  have hR : ((playR (l ++ ([⟨d, 6, 0, c, [(M.getD i default).person]⟩] : List Ev))).2.2 == 0) = false := by
    refine beq_false_of_ne fun h0 => tw ?_
    obtain ⟨m, g1, _, g3⟩ := hR0.1 (hp3.symm.trans h0) (M.getD i default).person (by simp)
    rw [hmoM i hlt] at g1
    cases g1
    exact g3
  by_cases y1 : KN i < A.length
  · have y1' : (KN i : Int) < A.length := by omega
    have y2 : (A.getD (KN i) default == (M.getD i default).person) = false := by simpa using hno i hlt hap y1
    simp (maxSteps := 4000000) +contextual (disch := first | omega | exact qdb_ok (by kernel_rfl) | exact okb_ok (by kernel_rfl)) only [bw1,bw2,bw3,bw4,bw5,bw6,bw7,bc0,bc1,bc2,bc3,bc4,bc5,bc6,bc7,bb0,setPs,AV.owns,AV.datF,AV.frz,AV.cpy,ifV,isEqB,nilV,nilX,AV.isNilS,AV.isNoRows,wk,dclo,datOf,binIs,addF,AV.isPtr,idxV,AV.isSl,AV.isSlice,AV.rows,ps,pv,extV,extS,AV.outs,AV.outF,packD,AV.dl,fieldV,fieldS,AV.cells?,AV.upr,AV.menc,AV.one,D.one,Value.oneCell',tagOf,AV.isApp,strV,strS,bolV,bolS,slcV,AV.isSlD,asrtS,AV.dcells,D.cells?,stcV,stcS,leafOk,eqDs,eqD,packA,D.val?,↓reduceIte,reduceCtorEq,Nat.reduceAdd,Nat.reduceSub,Nat.reduceMul,List.reduceReplicate,Nat.reduceLeDiff,Nat.reduceLT,Nat.reduceBEq,Nat.reduceEqDiff,Int.reduceNeg,Int.reduceEq,Int.reduceLE,Int.reduceLT,tfb,ctz9,O9_20,O9_25,x9_15,x9_15_m1,x9_18,x9_18_m1,x9_19,x9_22,x9_22_m1,eq_self, hlt', q1b, hw, hl, hi64, bne_self_eq_false, beq_self_eq_true, Int.reduceBNe, Int.reduceBEq, hfF, y1', y2, twb]
    and_intros
    any_goals omega
    refine ⟨(_, l ++ ([⟨d, 6, 0, c, [(M.getD i default).person]⟩] : List Ev)), rfl, ⟨hnil ⟨d, 6, 0, c, [(M.getD i default).person]⟩, hshq ⟨d, 6, 0, c, [(M.getD i default).person]⟩ (by simp)⟩, ?_⟩
    simp (maxSteps := 4000000) +contextual (disch := first | omega | exact qdb_ok (by kernel_rfl) | exact okb_ok (by kernel_rfl)) only [bw1,bw2,bw3,bw4,bw5,bw6,bw7,bc0,bc1,bc2,bc3,bc4,bc5,bc6,bc7,bb0,setPs,AV.owns,AV.datF,AV.frz,AV.cpy,ifV,isEqB,nilV,nilX,AV.isNilS,AV.isNoRows,wk,dclo,datOf,binIs,addF,AV.isPtr,idxV,AV.isSl,AV.isSlice,AV.rows,ps,pv,extV,extS,AV.outs,AV.outF,packD,AV.dl,fieldV,fieldS,AV.cells?,AV.upr,AV.menc,AV.one,D.one,Value.oneCell',tagOf,AV.isApp,strV,strS,bolV,bolS,slcV,AV.isSlD,asrtS,AV.dcells,D.cells?,stcV,stcS,leafOk,eqDs,eqD,packA,D.val?,↓reduceIte,reduceCtorEq,Nat.reduceAdd,Nat.reduceSub,Nat.reduceMul,List.reduceReplicate,Nat.reduceLeDiff,Nat.reduceLT,Nat.reduceBEq,Nat.reduceEqDiff,Int.reduceNeg,Int.reduceEq,Int.reduceLE,Int.reduceLT,tfb,ctz9,O9_20,O9_25,x9_15,x9_15_m1,x9_18,x9_18_m1,x9_19,x9_22,x9_22_m1,eq_self, bne_self_eq_false, beq_self_eq_true, Int.reduceBNe, Int.reduceBEq, hfF, y1', y2, twb, hR]
    and_intros <;> first | omega | rfl | trivial | (rw [hkn]; rfl) | (rw [hkn])
  · have y1' : ¬ (KN i : Int) < A.length := by omega
    simp (maxSteps := 4000000) +contextual (disch := first | omega | exact qdb_ok (by kernel_rfl) | exact okb_ok (by kernel_rfl)) only [bw1,bw2,bw3,bw4,bw5,bw6,bw7,bc0,bc1,bc2,bc3,bc4,bc5,bc6,bc7,bb0,setPs,AV.owns,AV.datF,AV.frz,AV.cpy,ifV,isEqB,nilV,nilX,AV.isNilS,AV.isNoRows,wk,dclo,datOf,binIs,addF,AV.isPtr,idxV,AV.isSl,AV.isSlice,AV.rows,ps,pv,extV,extS,AV.outs,AV.outF,packD,AV.dl,fieldV,fieldS,AV.cells?,AV.upr,AV.menc,AV.one,D.one,Value.oneCell',tagOf,AV.isApp,strV,strS,bolV,bolS,slcV,AV.isSlD,asrtS,AV.dcells,D.cells?,stcV,stcS,leafOk,eqDs,eqD,packA,D.val?,↓reduceIte,reduceCtorEq,Nat.reduceAdd,Nat.reduceSub,Nat.reduceMul,List.reduceReplicate,Nat.reduceLeDiff,Nat.reduceLT,Nat.reduceBEq,Nat.reduceEqDiff,Int.reduceNeg,Int.reduceEq,Int.reduceLE,Int.reduceLT,tfb,ctz9,O9_20,O9_25,x9_15,x9_15_m1,x9_18,x9_18_m1,x9_19,x9_22,x9_22_m1,eq_self, hlt', q1b, hw, hl, hi64, bne_self_eq_false, beq_self_eq_true, Int.reduceBNe, Int.reduceBEq, hfF, y1', twb]
    and_intros
    any_goals omega
    refine ⟨(_, l ++ ([⟨d, 6, 0, c, [(M.getD i default).person]⟩] : List Ev)), rfl, ⟨hnil ⟨d, 6, 0, c, [(M.getD i default).person]⟩, hshq ⟨d, 6, 0, c, [(M.getD i default).person]⟩ (by simp)⟩, ?_⟩
    simp (maxSteps := 4000000) +contextual (disch := first | omega | exact qdb_ok (by kernel_rfl) | exact okb_ok (by kernel_rfl)) only [bw1,bw2,bw3,bw4,bw5,bw6,bw7,bc0,bc1,bc2,bc3,bc4,bc5,bc6,bc7,bb0,setPs,AV.owns,AV.datF,AV.frz,AV.cpy,ifV,isEqB,nilV,nilX,AV.isNilS,AV.isNoRows,wk,dclo,datOf,binIs,addF,AV.isPtr,idxV,AV.isSl,AV.isSlice,AV.rows,ps,pv,extV,extS,AV.outs,AV.outF,packD,AV.dl,fieldV,fieldS,AV.cells?,AV.upr,AV.menc,AV.one,D.one,Value.oneCell',tagOf,AV.isApp,strV,strS,bolV,bolS,slcV,AV.isSlD,asrtS,AV.dcells,D.cells?,stcV,stcS,leafOk,eqDs,eqD,packA,D.val?,↓reduceIte,reduceCtorEq,Nat.reduceAdd,Nat.reduceSub,Nat.reduceMul,List.reduceReplicate,Nat.reduceLeDiff,Nat.reduceLT,Nat.reduceBEq,Nat.reduceEqDiff,Int.reduceNeg,Int.reduceEq,Int.reduceLE,Int.reduceLT,tfb,ctz9,O9_20,O9_25,x9_15,x9_15_m1,x9_18,x9_18_m1,x9_19,x9_22,x9_22_m1,eq_self, bne_self_eq_false, beq_self_eq_true, Int.reduceBNe, Int.reduceBEq, hfF, y1', twb, hR]
    and_intros <;> first | omega | rfl | trivial | (rw [hkn]; rfl) | (rw [hkn])
end Go.Proofs.Ytohkngiflfkjjaa
