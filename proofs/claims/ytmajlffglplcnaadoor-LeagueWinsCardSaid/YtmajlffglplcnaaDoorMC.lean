/- A part of the proof that the last text ends: what functions of the program do, told by plain data. -/
import Derived.Test.YtmajlffglplcnaaDoorMB
set_option linter.unusedVariables false
set_option linter.unusedSimpArgs false
namespace Go.Proofs.YtmajlffglplcnaaDoor
open Go Go.E
set_option maxRecDepth 100000
set_option maxHeartbeats 16000000
def O52 : Nat → Sch := fun id => .done
theorem ho52 : Tryd.f52.body.map (okO O52) = some true := by kernel_rfl
def Cf52 : Nat → List AV → (AV → List AV → Sto → Prop) → Kt → List AV → Sto → Prop := fun f args K Q e s => match f with
  | 53 => ent53 args K e s
  | _ => False
def Ct52 : CT := { f := Cf52, y := noYld, z := fun d => false }
theorem ctz52 {d : Nat} : CT.z Ct52 d = (false) := id rfl
theorem Ct52_ok : Ct52.ok Tryd.prog := ok_of_f (fun f args K Q e s h => by
  have h : Cf52 f args K Q e s := h
  unfold Cf52 at h; split at h
  · exact ent53_ok h
  · exact h.elim) (fun _ _ _ _ _ _ _ _ _ h => h)
theorem x52_53 {n : Int} {lo : Int} {hi : Int} {KK : AV → List AV → Sto → Prop} {QQ : Kt} {ii : At KK} {jj : At QQ} {ee : List AV} {ss : Sto} : xC Ct52 53 [.d (.i n), .d (.i lo), .d (.i hi)] KK QQ ii jj ee ss = (KK (.d (.b (inB n lo hi))) ee ss) := eq53
theorem c52 : callable Tryd.prog 52 = true := by kernel_rfl
def O66 : Nat → Sch := fun id => .done
theorem ho66 : Tryd.f66.body.map (okO O66) = some true := by kernel_rfl
def Cf66 : Nat → List AV → (AV → List AV → Sto → Prop) → Kt → List AV → Sto → Prop := fun f args K Q e s => match f with
  | 52 => inlE Tryd.prog Ct52 O52 52000 52 args K Q e s
  | _ => False
def Ct66 : CT := { f := Cf66, y := noYld, z := fun d => false }
theorem ctz66 {d : Nat} : CT.z Ct66 d = (false) := id rfl
theorem Ct66_ok : Ct66.ok Tryd.prog := ok_of_f (fun f args K Q e s h => by
  have h : Cf66 f args K Q e s := h
  unfold Cf66 at h; split at h
  · exact inlE_ok Ct52_ok hmix ho52 h
  · exact h.elim) (fun _ _ _ _ _ _ _ _ _ h => h)
theorem z66_52 : type_of% (@xinl Tryd.prog Ct66 Ct52 O52 52000 52 _ _ _ _ rfl c52 Tryd.func52 rfl Tryd.ntmps52 Tryd.results52) := @xinl Tryd.prog Ct66 Ct52 O52 52000 52 _ _ _ _ rfl c52 Tryd.func52 rfl Tryd.ntmps52 Tryd.results52
theorem c66 : callable Tryd.prog 66 = true := by kernel_rfl
def O55 : Nat → Sch := fun id => .done
theorem ho55 : Tryd.f55.body.map (okO O55) = some true := by kernel_rfl
def Cf55 : Nat → List AV → (AV → List AV → Sto → Prop) → Kt → List AV → Sto → Prop := fun f args K Q e s => match f with
  | 66 => inlE Tryd.prog Ct66 O66 66000 66 args K Q e s
  | _ => False
def Ct55 : CT := { f := Cf55, y := noYld, z := fun d => false }
theorem ctz55 {d : Nat} : CT.z Ct55 d = (false) := id rfl
theorem Ct55_ok : Ct55.ok Tryd.prog := ok_of_f (fun f args K Q e s h => by
  have h : Cf55 f args K Q e s := h
  unfold Cf55 at h; split at h
  · exact inlE_ok Ct66_ok hmix ho66 h
  · exact h.elim) (fun _ _ _ _ _ _ _ _ _ h => h)
theorem z55_66 : type_of% (@xinl Tryd.prog Ct55 Ct66 O66 66000 66 _ _ _ _ rfl c66 Tryd.func66 rfl Tryd.ntmps66 Tryd.results66) := @xinl Tryd.prog Ct55 Ct66 O66 66000 66 _ _ _ _ rfl c66 Tryd.func66 rfl Tryd.ntmps66 Tryd.results66
theorem c55 : callable Tryd.prog 55 = true := by kernel_rfl
def O54 : Nat → Sch := fun id => .done
theorem ho54 : Tryd.f54.body.map (okO O54) = some true := by kernel_rfl
def Cf54 : Nat → List AV → (AV → List AV → Sto → Prop) → Kt → List AV → Sto → Prop := fun f args K Q e s => match f with
  | 55 => inlE Tryd.prog Ct55 O55 55000 55 args K Q e s
  | _ => False
def Ct54 : CT := { f := Cf54, y := noYld, z := fun d => false }
theorem ctz54 {d : Nat} : CT.z Ct54 d = (false) := id rfl
theorem Ct54_ok : Ct54.ok Tryd.prog := ok_of_f (fun f args K Q e s h => by
  have h : Cf54 f args K Q e s := h
  unfold Cf54 at h; split at h
  · exact inlE_ok Ct55_ok hmix ho55 h
  · exact h.elim) (fun _ _ _ _ _ _ _ _ _ h => h)
theorem z54_55 : type_of% (@xinl Tryd.prog Ct54 Ct55 O55 55000 55 _ _ _ _ rfl c55 Tryd.func55 rfl Tryd.ntmps55 Tryd.results55) := @xinl Tryd.prog Ct54 Ct55 O55 55000 55 _ _ _ _ rfl c55 Tryd.func55 rfl Tryd.ntmps55 Tryd.results55
theorem c54 : callable Tryd.prog 54 = true := by kernel_rfl
def O67 : Nat → Sch := fun id => .done
theorem ho67 : Tryd.f67.body.map (okO O67) = some true := by kernel_rfl
def Cf67 : Nat → List AV → (AV → List AV → Sto → Prop) → Kt → List AV → Sto → Prop := fun f args K Q e s => match f with
  | 54 => inlE Tryd.prog Ct54 O54 54000 54 args K Q e s
  | _ => False
def Ct67 : CT := { f := Cf67, y := noYld, z := fun d => false }
theorem ctz67 {d : Nat} : CT.z Ct67 d = (false) := id rfl
theorem Ct67_ok : Ct67.ok Tryd.prog := ok_of_f (fun f args K Q e s h => by
  have h : Cf67 f args K Q e s := h
  unfold Cf67 at h; split at h
  · exact inlE_ok Ct54_ok hmix ho54 h
  · exact h.elim) (fun _ _ _ _ _ _ _ _ _ h => h)
theorem z67_54 : type_of% (@xinl Tryd.prog Ct67 Ct54 O54 54000 54 _ _ _ _ rfl c54 Tryd.func54 rfl Tryd.ntmps54 Tryd.results54) := @xinl Tryd.prog Ct67 Ct54 O54 54000 54 _ _ _ _ rfl c54 Tryd.func54 rfl Tryd.ntmps54 Tryd.results54
theorem c67 : callable Tryd.prog 67 = true := by kernel_rfl
def O57 : Nat → Sch := fun id => .done
theorem ho57 : Tryd.f57.body.map (okO O57) = some true := by kernel_rfl
def Cf57 : Nat → List AV → (AV → List AV → Sto → Prop) → Kt → List AV → Sto → Prop := fun f args K Q e s => match f with
  | 67 => inlE Tryd.prog Ct67 O67 67000 67 args K Q e s
  | _ => False
def Ct57 : CT := { f := Cf57, y := noYld, z := fun d => false }
theorem ctz57 {d : Nat} : CT.z Ct57 d = (false) := id rfl
theorem Ct57_ok : Ct57.ok Tryd.prog := ok_of_f (fun f args K Q e s h => by
  have h : Cf57 f args K Q e s := h
  unfold Cf57 at h; split at h
  · exact inlE_ok Ct67_ok hmix ho67 h
  · exact h.elim) (fun _ _ _ _ _ _ _ _ _ h => h)
theorem z57_67 : type_of% (@xinl Tryd.prog Ct57 Ct67 O67 67000 67 _ _ _ _ rfl c67 Tryd.func67 rfl Tryd.ntmps67 Tryd.results67) := @xinl Tryd.prog Ct57 Ct67 O67 67000 67 _ _ _ _ rfl c67 Tryd.func67 rfl Tryd.ntmps67 Tryd.results67
theorem c57 : callable Tryd.prog 57 = true := by kernel_rfl
def O28 : Nat → Sch := fun id => .done
theorem ho28 : Tryd.f28.body.map (okO O28) = some true := by kernel_rfl
def Cf28 : Nat → List AV → (AV → List AV → Sto → Prop) → Kt → List AV → Sto → Prop := fun f args K Q e s => match f with
  | 56 => ent56 args K e s
  | 57 => inlE Tryd.prog Ct57 O57 57000 57 args K Q e s
  | _ => False
def Ct28 : CT := { f := Cf28, y := noYld, z := fun d => false }
theorem ctz28 {d : Nat} : CT.z Ct28 d = (false) := id rfl
theorem Ct28_ok : Ct28.ok Tryd.prog := ok_of_f (fun f args K Q e s h => by
  have h : Cf28 f args K Q e s := h
  unfold Cf28 at h; split at h
  · exact ent56_ok h
  · exact inlE_ok Ct57_ok hmix ho57 h
  · exact h.elim) (fun _ _ _ _ _ _ _ _ _ h => h)
theorem x28_56 {g : Gam} {n : Int} {KK : AV → List AV → Sto → Prop} {QQ : Kt} {ii : At KK} {jj : At QQ} {ee : List AV} {ss : Sto} : xC Ct28 56 [.d (.agg g.c), .d (.i n)] KK QQ ii jj ee ss = ((0 ≤ n ∧ n ≤ 1000000) ∧ KK (.d (.b (gmOk g n))) ee ss) := eq56
theorem z28_57 : type_of% (@xinl Tryd.prog Ct28 Ct57 O57 57000 57 _ _ _ _ rfl c57 Tryd.func57 rfl Tryd.ntmps57 Tryd.results57) := @xinl Tryd.prog Ct28 Ct57 O57 57000 57 _ _ _ _ rfl c57 Tryd.func57 rfl Tryd.ntmps57 Tryd.results57
theorem c28 : callable Tryd.prog 28 = true := by kernel_rfl
theorem pf28 (l : Lea) (h : l.far.length ≤ 1000) : PF Tryd.prog 28 [.agg l.c] (fun zz => zz = .ret (.b (leaOk l))) := by
  have hfar := h
  by_cases b1 : (l.far.length : Int) ≤ 6
  case neg =>
    have b1' : (6 : Int) < l.far.length := by omega
    rw [lea_big fun h => b1 h.1]
    refine PF_nil (PF_start (O := O28) Ct28_ok hmix ho28 Tryd.func28 c28 rfl Tryd.ntmps28 Tryd.results28 ?_)
    simp (maxSteps := 4000000) +contextual (disch := first | omega | exact qdb_ok (by kernel_rfl) | exact okb_ok (by kernel_rfl)) only [bw1,bw2,bw3,bw4,bw5,bw6,bw7,bc0,bc1,bc2,bc3,bc4,bc5,bc6,bc7,bb0,setPs,AV.owns,AV.datF,AV.frz,AV.cpy,ifV,isEqB,nilV,nilX,AV.isNilS,AV.isNoRows,wk,dclo,datOf,binIs,addF,AV.isPtr,idxV,AV.isSl,AV.isSlice,AV.rows,ps,pv,extV,extS,AV.outs,AV.outF,packD,AV.dl,fieldV,fieldS,AV.cells?,AV.upr,AV.menc,AV.one,D.one,Value.oneCell',tagOf,AV.isApp,strV,strS,bolV,bolS,slcV,AV.isSlD,asrtS,AV.dcells,D.cells?,stcV,stcS,leafOk,eqDs,eqD,packA,D.val?,↓reduceIte,reduceCtorEq,Nat.reduceAdd,Nat.reduceSub,Nat.reduceMul,List.reduceReplicate,Nat.reduceLeDiff,Nat.reduceLT,Nat.reduceBEq,Nat.reduceEqDiff,Int.reduceNeg,Int.reduceEq,Int.reduceLE,Int.reduceLT,tfb,ctz28,x28_56,z28_57,ctz57,z57_67,ctz67,z67_54,ctz54,z54_55,ctz55,z55_66,ctz66,z66_52,ctz52,x52_53,b1']
  by_cases b2 : (l.games.length : Int) ≤ 64
  case neg =>
    have b1' : ¬ (6 : Int) < l.far.length := by omega
    have b2' : (64 : Int) < l.games.length := by omega
    rw [lea_big fun h => b2 h.2]
    refine PF_nil (PF_start (O := O28) Ct28_ok hmix ho28 Tryd.func28 c28 rfl Tryd.ntmps28 Tryd.results28 ?_)
    simp (maxSteps := 4000000) +contextual (disch := first | omega | exact qdb_ok (by kernel_rfl) | exact okb_ok (by kernel_rfl)) only [bw1,bw2,bw3,bw4,bw5,bw6,bw7,bc0,bc1,bc2,bc3,bc4,bc5,bc6,bc7,bb0,setPs,AV.owns,AV.datF,AV.frz,AV.cpy,ifV,isEqB,nilV,nilX,AV.isNilS,AV.isNoRows,wk,dclo,datOf,binIs,addF,AV.isPtr,idxV,AV.isSl,AV.isSlice,AV.rows,ps,pv,extV,extS,AV.outs,AV.outF,packD,AV.dl,fieldV,fieldS,AV.cells?,AV.upr,AV.menc,AV.one,D.one,Value.oneCell',tagOf,AV.isApp,strV,strS,bolV,bolS,slcV,AV.isSlD,asrtS,AV.dcells,D.cells?,stcV,stcS,leafOk,eqDs,eqD,packA,D.val?,↓reduceIte,reduceCtorEq,Nat.reduceAdd,Nat.reduceSub,Nat.reduceMul,List.reduceReplicate,Nat.reduceLeDiff,Nat.reduceLT,Nat.reduceBEq,Nat.reduceEqDiff,Int.reduceNeg,Int.reduceEq,Int.reduceLE,Int.reduceLT,tfb,ctz28,x28_56,z28_57,ctz57,z57_67,ctz67,z67_54,ctz54,z54_55,ctz55,z55_66,ctz66,z66_52,ctz52,x52_53,b1', b2']
  have b1' : ¬ (6 : Int) < l.far.length := by omega
  have b2' : ¬ (64 : Int) < l.games.length := by omega
  obtain ⟨W, hW⟩ : ∃ W, W = leaOk l := ⟨_, rfl⟩
  rw [← hW]
  refine PF_nil (PF_start (O := O28) Ct28_ok hmix ho28 Tryd.func28 c28 rfl Tryd.ntmps28 Tryd.results28 ?_)
  simp (maxSteps := 4000000) +contextual (disch := first | omega | exact qdb_ok (by kernel_rfl) | exact okb_ok (by kernel_rfl)) only [bw1,bw2,bw3,bw4,bw5,bw6,bw7,bc0,bc1,bc2,bc3,bc4,bc5,bc6,bc7,bb0,setPs,AV.owns,AV.datF,AV.frz,AV.cpy,ifV,isEqB,nilV,nilX,AV.isNilS,AV.isNoRows,wk,dclo,datOf,binIs,addF,AV.isPtr,idxV,AV.isSl,AV.isSlice,AV.rows,ps,pv,extV,extS,AV.outs,AV.outF,packD,AV.dl,fieldV,fieldS,AV.cells?,AV.upr,AV.menc,AV.one,D.one,Value.oneCell',tagOf,AV.isApp,strV,strS,bolV,bolS,slcV,AV.isSlD,asrtS,AV.dcells,D.cells?,stcV,stcS,leafOk,eqDs,eqD,packA,D.val?,↓reduceIte,reduceCtorEq,Nat.reduceAdd,Nat.reduceSub,Nat.reduceMul,List.reduceReplicate,Nat.reduceLeDiff,Nat.reduceLT,Nat.reduceBEq,Nat.reduceEqDiff,Int.reduceNeg,Int.reduceEq,Int.reduceLE,Int.reduceLT,tfb,ctz28,x28_56,z28_57,ctz57,z57_67,ctz67,z67_54,ctz54,z54_55,ctz55,z55_66,ctz66,z66_52,ctz52,x52_53,b1', b2']
  refine loop_xu (O := O28) (tb := 0) Ct28_ok hmix (by kernel_rfl) (σ := Nat) (fun j => [(6, .i (openN l.games j : Int)), (24, .i j)]) (fun _ => []) (fun j => j ≤ l.games.length ∧ ∀ q, q < j → gmOk (l.games.getD q default) l.far.length = true) (fun j => l.games.length - j) 0 ⟨Nat.zero_le _, fun j hj => by omega⟩ ?_ ?_
  · have hz : openN l.games 0 = 0 := openN_zero
    simp (maxSteps := 4000000) +contextual (disch := first | omega | exact qdb_ok (by kernel_rfl) | exact okb_ok (by kernel_rfl)) only [bw1,bw2,bw3,bw4,bw5,bw6,bw7,bc0,bc1,bc2,bc3,bc4,bc5,bc6,bc7,bb0,setPs,AV.owns,AV.datF,AV.frz,AV.cpy,ifV,isEqB,nilV,nilX,AV.isNilS,AV.isNoRows,wk,dclo,datOf,binIs,addF,AV.isPtr,idxV,AV.isSl,AV.isSlice,AV.rows,ps,pv,extV,extS,AV.outs,AV.outF,packD,AV.dl,fieldV,fieldS,AV.cells?,AV.upr,AV.menc,AV.one,D.one,Value.oneCell',tagOf,AV.isApp,strV,strS,bolV,bolS,slcV,AV.isSlD,asrtS,AV.dcells,D.cells?,stcV,stcS,leafOk,eqDs,eqD,packA,D.val?,↓reduceIte,reduceCtorEq,Nat.reduceAdd,Nat.reduceSub,Nat.reduceMul,List.reduceReplicate,Nat.reduceLeDiff,Nat.reduceLT,Nat.reduceBEq,Nat.reduceEqDiff,Int.reduceNeg,Int.reduceEq,Int.reduceLE,Int.reduceLT,tfb,ctz28,x28_56,z28_57,ctz57,z57_67,ctz67,z67_54,ctz54,z54_55,ctz55,z55_66,ctz66,z66_52,ctz52,x52_53,eq_self, hz]
    try rfl
  rintro j ⟨hj1, hj3⟩
  have hon := openN_le (l := l.games) (j := j)
  by_cases e1 : j < l.games.length
  · have e1' : (j : Int) < l.games.length := by omega
    by_cases e3 : gmOk (l.games.getD j default) l.far.length = true
    · by_cases e4 : (l.games.getD j default).fin = 0
      · have e4b : ((l.games.getD j default).fin == 0) = true := by simpa using e4
        have hs := openN_yes e1 e4
        simp (maxSteps := 4000000) +contextual (disch := first | omega | exact qdb_ok (by kernel_rfl) | exact okb_ok (by kernel_rfl)) only [bw1,bw2,bw3,bw4,bw5,bw6,bw7,bc0,bc1,bc2,bc3,bc4,bc5,bc6,bc7,bb0,setPs,AV.owns,AV.datF,AV.frz,AV.cpy,ifV,isEqB,nilV,nilX,AV.isNilS,AV.isNoRows,wk,dclo,datOf,binIs,addF,AV.isPtr,idxV,AV.isSl,AV.isSlice,AV.rows,ps,pv,extV,extS,AV.outs,AV.outF,packD,AV.dl,fieldV,fieldS,AV.cells?,AV.upr,AV.menc,AV.one,D.one,Value.oneCell',tagOf,AV.isApp,strV,strS,bolV,bolS,slcV,AV.isSlD,asrtS,AV.dcells,D.cells?,stcV,stcS,leafOk,eqDs,eqD,packA,D.val?,↓reduceIte,reduceCtorEq,Nat.reduceAdd,Nat.reduceSub,Nat.reduceMul,List.reduceReplicate,Nat.reduceLeDiff,Nat.reduceLT,Nat.reduceBEq,Nat.reduceEqDiff,Int.reduceNeg,Int.reduceEq,Int.reduceLE,Int.reduceLT,tfb,ctz28,x28_56,z28_57,ctz57,z57_67,ctz67,z67_54,ctz54,z54_55,ctz55,z55_66,ctz66,z66_52,ctz52,x52_53,eq_self, e1', e3, e4b, hfar]
        and_intros <;> first | omega | exact ⟨j + 1, ⟨⟨by omega, fun q hq => by rcases Nat.lt_succ_iff_lt_or_eq.1 hq with h' | rfl; exact hj3 q h'; exact e3⟩, by omega⟩, by rw [hs] <;> rfl, rfl⟩
      · have e4b : ((l.games.getD j default).fin == 0) = false := by simpa using e4
        have hs := openN_no e1 e4
        simp (maxSteps := 4000000) +contextual (disch := first | omega | exact qdb_ok (by kernel_rfl) | exact okb_ok (by kernel_rfl)) only [bw1,bw2,bw3,bw4,bw5,bw6,bw7,bc0,bc1,bc2,bc3,bc4,bc5,bc6,bc7,bb0,setPs,AV.owns,AV.datF,AV.frz,AV.cpy,ifV,isEqB,nilV,nilX,AV.isNilS,AV.isNoRows,wk,dclo,datOf,binIs,addF,AV.isPtr,idxV,AV.isSl,AV.isSlice,AV.rows,ps,pv,extV,extS,AV.outs,AV.outF,packD,AV.dl,fieldV,fieldS,AV.cells?,AV.upr,AV.menc,AV.one,D.one,Value.oneCell',tagOf,AV.isApp,strV,strS,bolV,bolS,slcV,AV.isSlD,asrtS,AV.dcells,D.cells?,stcV,stcS,leafOk,eqDs,eqD,packA,D.val?,↓reduceIte,reduceCtorEq,Nat.reduceAdd,Nat.reduceSub,Nat.reduceMul,List.reduceReplicate,Nat.reduceLeDiff,Nat.reduceLT,Nat.reduceBEq,Nat.reduceEqDiff,Int.reduceNeg,Int.reduceEq,Int.reduceLE,Int.reduceLT,tfb,ctz28,x28_56,z28_57,ctz57,z57_67,ctz67,z67_54,ctz54,z54_55,ctz55,z55_66,ctz66,z66_52,ctz52,x52_53,eq_self, e1', e3, e4b, hfar]
        and_intros <;> first | omega | exact ⟨j + 1, ⟨⟨by omega, fun q hq => by rcases Nat.lt_succ_iff_lt_or_eq.1 hq with h' | rfl; exact hj3 q h'; exact e3⟩, by omega⟩, by rw [hs], rfl⟩
    · have e3b : gmOk (l.games.getD j default) l.far.length = false := by simpa using e3
      have hWf : W = false := hW.trans (lea_gam e1 e3b)
      simp (maxSteps := 4000000) +contextual (disch := first | omega | exact qdb_ok (by kernel_rfl) | exact okb_ok (by kernel_rfl)) only [bw1,bw2,bw3,bw4,bw5,bw6,bw7,bc0,bc1,bc2,bc3,bc4,bc5,bc6,bc7,bb0,setPs,AV.owns,AV.datF,AV.frz,AV.cpy,ifV,isEqB,nilV,nilX,AV.isNilS,AV.isNoRows,wk,dclo,datOf,binIs,addF,AV.isPtr,idxV,AV.isSl,AV.isSlice,AV.rows,ps,pv,extV,extS,AV.outs,AV.outF,packD,AV.dl,fieldV,fieldS,AV.cells?,AV.upr,AV.menc,AV.one,D.one,Value.oneCell',tagOf,AV.isApp,strV,strS,bolV,bolS,slcV,AV.isSlD,asrtS,AV.dcells,D.cells?,stcV,stcS,leafOk,eqDs,eqD,packA,D.val?,↓reduceIte,reduceCtorEq,Nat.reduceAdd,Nat.reduceSub,Nat.reduceMul,List.reduceReplicate,Nat.reduceLeDiff,Nat.reduceLT,Nat.reduceBEq,Nat.reduceEqDiff,Int.reduceNeg,Int.reduceEq,Int.reduceLE,Int.reduceLT,tfb,ctz28,x28_56,z28_57,ctz57,z57_67,ctz67,z67_54,ctz54,z54_55,ctz55,z55_66,ctz66,z66_52,ctz52,x52_53,eq_self, e1', e3b, hfar, hWf]
      try (and_intros <;> first | omega | rfl | trivial)
  have e1' : ¬ (j : Int) < l.games.length := by omega
  obtain rfl : j = l.games.length := by omega
  simp (maxSteps := 4000000) +contextual (disch := first | omega | exact qdb_ok (by kernel_rfl) | exact okb_ok (by kernel_rfl)) only [bw1,bw2,bw3,bw4,bw5,bw6,bw7,bc0,bc1,bc2,bc3,bc4,bc5,bc6,bc7,bb0,setPs,AV.owns,AV.datF,AV.frz,AV.cpy,ifV,isEqB,nilV,nilX,AV.isNilS,AV.isNoRows,wk,dclo,datOf,binIs,addF,AV.isPtr,idxV,AV.isSl,AV.isSlice,AV.rows,ps,pv,extV,extS,AV.outs,AV.outF,packD,AV.dl,fieldV,fieldS,AV.cells?,AV.upr,AV.menc,AV.one,D.one,Value.oneCell',tagOf,AV.isApp,strV,strS,bolV,bolS,slcV,AV.isSlD,asrtS,AV.dcells,D.cells?,stcV,stcS,leafOk,eqDs,eqD,packA,D.val?,↓reduceIte,reduceCtorEq,Nat.reduceAdd,Nat.reduceSub,Nat.reduceMul,List.reduceReplicate,Nat.reduceLeDiff,Nat.reduceLT,Nat.reduceBEq,Nat.reduceEqDiff,Int.reduceNeg,Int.reduceEq,Int.reduceLE,Int.reduceLT,tfb,ctz28,x28_56,z28_57,ctz57,z57_67,ctz67,z67_54,ctz54,z54_55,ctz55,z55_66,ctz66,z66_52,ctz52,x52_53,eq_self, Int.lt_irrefl]
  refine loop_xu (O := O67) (tb := 67000) Ct67_ok hmix (by kernel_rfl) (σ := Nat) (fun i => [(8, .i i)]) (fun _ => []) (fun i => i ≤ l.far.length ∧ ∀ q, q < i → rowOk l.far.length (l.far.getD q default) = true) (fun i => l.far.length - i) 0 ⟨Nat.zero_le _, fun j hj => by omega⟩ ?_ ?_
  · simp (maxSteps := 4000000) +contextual (disch := first | omega | exact qdb_ok (by kernel_rfl) | exact okb_ok (by kernel_rfl)) only [bw1,bw2,bw3,bw4,bw5,bw6,bw7,bc0,bc1,bc2,bc3,bc4,bc5,bc6,bc7,bb0,setPs,AV.owns,AV.datF,AV.frz,AV.cpy,ifV,isEqB,nilV,nilX,AV.isNilS,AV.isNoRows,wk,dclo,datOf,binIs,addF,AV.isPtr,idxV,AV.isSl,AV.isSlice,AV.rows,ps,pv,extV,extS,AV.outs,AV.outF,packD,AV.dl,fieldV,fieldS,AV.cells?,AV.upr,AV.menc,AV.one,D.one,Value.oneCell',tagOf,AV.isApp,strV,strS,bolV,bolS,slcV,AV.isSlD,asrtS,AV.dcells,D.cells?,stcV,stcS,leafOk,eqDs,eqD,packA,D.val?,↓reduceIte,reduceCtorEq,Nat.reduceAdd,Nat.reduceSub,Nat.reduceMul,List.reduceReplicate,Nat.reduceLeDiff,Nat.reduceLT,Nat.reduceBEq,Nat.reduceEqDiff,Int.reduceNeg,Int.reduceEq,Int.reduceLE,Int.reduceLT,tfb,ctz28,x28_56,z28_57,ctz57,z57_67,ctz67,z67_54,ctz54,z54_55,ctz55,z55_66,ctz66,z66_52,ctz52,x52_53,eq_self]
    try rfl
  rintro i ⟨hi1, hi3⟩
  by_cases c1 : i < l.far.length
  · have c1' : (i : Int) < l.far.length := by omega
    have hi0 : (0 : Int) ≤ i := by omega
    by_cases c3 : ((l.far.getD i default).length : Int) = l.far.length
    case neg =>
      have c3b : (((l.far.getD i default).length : Int) != (l.far.length : Int)) = true := by simpa using c3
      have hWf : W = false := hW.trans (lea_far c1 (row_len c3))
      simp (maxSteps := 4000000) +contextual (disch := first | omega | exact qdb_ok (by kernel_rfl) | exact okb_ok (by kernel_rfl)) only [bw1,bw2,bw3,bw4,bw5,bw6,bw7,bc0,bc1,bc2,bc3,bc4,bc5,bc6,bc7,bb0,setPs,AV.owns,AV.datF,AV.frz,AV.cpy,ifV,isEqB,nilV,nilX,AV.isNilS,AV.isNoRows,wk,dclo,datOf,binIs,addF,AV.isPtr,idxV,AV.isSl,AV.isSlice,AV.rows,ps,pv,extV,extS,AV.outs,AV.outF,packD,AV.dl,fieldV,fieldS,AV.cells?,AV.upr,AV.menc,AV.one,D.one,Value.oneCell',tagOf,AV.isApp,strV,strS,bolV,bolS,slcV,AV.isSlD,asrtS,AV.dcells,D.cells?,stcV,stcS,leafOk,eqDs,eqD,packA,D.val?,↓reduceIte,reduceCtorEq,Nat.reduceAdd,Nat.reduceSub,Nat.reduceMul,List.reduceReplicate,Nat.reduceLeDiff,Nat.reduceLT,Nat.reduceBEq,Nat.reduceEqDiff,Int.reduceNeg,Int.reduceEq,Int.reduceLE,Int.reduceLT,tfb,ctz28,x28_56,z28_57,ctz57,z57_67,ctz67,z67_54,ctz54,z54_55,ctz55,z55_66,ctz66,z66_52,ctz52,x52_53,eq_self, c1', c3b, hi0, hWf]
    have c3b : (((l.far.getD i default).length : Int) != (l.far.length : Int)) = false := by simpa using c3
    have hrow : ∀ k, k < l.far.length → inB ((l.far.getD i default).getD k default) 0 100000 = false → W = false := fun k hk hb => hW.trans (lea_far c1 (row_at (k := k) (by omega) hb))
    simp (maxSteps := 4000000) +contextual (disch := first | omega | exact qdb_ok (by kernel_rfl) | exact okb_ok (by kernel_rfl)) only [bw1,bw2,bw3,bw4,bw5,bw6,bw7,bc0,bc1,bc2,bc3,bc4,bc5,bc6,bc7,bb0,setPs,AV.owns,AV.datF,AV.frz,AV.cpy,ifV,isEqB,nilV,nilX,AV.isNilS,AV.isNoRows,wk,dclo,datOf,binIs,addF,AV.isPtr,idxV,AV.isSl,AV.isSlice,AV.rows,ps,pv,extV,extS,AV.outs,AV.outF,packD,AV.dl,fieldV,fieldS,AV.cells?,AV.upr,AV.menc,AV.one,D.one,Value.oneCell',tagOf,AV.isApp,strV,strS,bolV,bolS,slcV,AV.isSlD,asrtS,AV.dcells,D.cells?,stcV,stcS,leafOk,eqDs,eqD,packA,D.val?,↓reduceIte,reduceCtorEq,Nat.reduceAdd,Nat.reduceSub,Nat.reduceMul,List.reduceReplicate,Nat.reduceLeDiff,Nat.reduceLT,Nat.reduceBEq,Nat.reduceEqDiff,Int.reduceNeg,Int.reduceEq,Int.reduceLE,Int.reduceLT,tfb,ctz28,x28_56,z28_57,ctz57,z57_67,ctz67,z67_54,ctz54,z54_55,ctz55,z55_66,ctz66,z66_52,ctz52,x52_53,eq_self, c1', c3b, hi0]
    try refine ⟨by omega, ?_⟩
    refine loop_xu (O := O66) (tb := 66000) Ct66_ok hmix (by kernel_rfl) (σ := Nat) (fun k => [(8, .i k)]) (fun _ => []) (fun k => k ≤ l.far.length ∧ ∀ q, q < k → inB ((l.far.getD i default).getD q default) 0 100000 = true) (fun k => l.far.length - k) 0 ⟨Nat.zero_le _, fun j hj => by omega⟩ ?_ ?_
    · simp (maxSteps := 4000000) +contextual (disch := first | omega | exact qdb_ok (by kernel_rfl) | exact okb_ok (by kernel_rfl)) only [bw1,bw2,bw3,bw4,bw5,bw6,bw7,bc0,bc1,bc2,bc3,bc4,bc5,bc6,bc7,bb0,setPs,AV.owns,AV.datF,AV.frz,AV.cpy,ifV,isEqB,nilV,nilX,AV.isNilS,AV.isNoRows,wk,dclo,datOf,binIs,addF,AV.isPtr,idxV,AV.isSl,AV.isSlice,AV.rows,ps,pv,extV,extS,AV.outs,AV.outF,packD,AV.dl,fieldV,fieldS,AV.cells?,AV.upr,AV.menc,AV.one,D.one,Value.oneCell',tagOf,AV.isApp,strV,strS,bolV,bolS,slcV,AV.isSlD,asrtS,AV.dcells,D.cells?,stcV,stcS,leafOk,eqDs,eqD,packA,D.val?,↓reduceIte,reduceCtorEq,Nat.reduceAdd,Nat.reduceSub,Nat.reduceMul,List.reduceReplicate,Nat.reduceLeDiff,Nat.reduceLT,Nat.reduceBEq,Nat.reduceEqDiff,Int.reduceNeg,Int.reduceEq,Int.reduceLE,Int.reduceLT,tfb,ctz28,x28_56,z28_57,ctz57,z57_67,ctz67,z67_54,ctz54,z54_55,ctz55,z55_66,ctz66,z66_52,ctz52,x52_53,eq_self]
      try rfl
    rintro k ⟨hk1, hk2⟩
    by_cases d1 : k < l.far.length
    · have d1' : (k : Int) < (l.far.getD i default).length := by omega
      have hk0 : (0 : Int) ≤ k := by omega
      by_cases d2 : inB ((l.far.getD i default).getD k default) 0 100000 = true
      · simp (maxSteps := 4000000) +contextual (disch := first | omega | exact qdb_ok (by kernel_rfl) | exact okb_ok (by kernel_rfl)) only [bw1,bw2,bw3,bw4,bw5,bw6,bw7,bc0,bc1,bc2,bc3,bc4,bc5,bc6,bc7,bb0,setPs,AV.owns,AV.datF,AV.frz,AV.cpy,ifV,isEqB,nilV,nilX,AV.isNilS,AV.isNoRows,wk,dclo,datOf,binIs,addF,AV.isPtr,idxV,AV.isSl,AV.isSlice,AV.rows,ps,pv,extV,extS,AV.outs,AV.outF,packD,AV.dl,fieldV,fieldS,AV.cells?,AV.upr,AV.menc,AV.one,D.one,Value.oneCell',tagOf,AV.isApp,strV,strS,bolV,bolS,slcV,AV.isSlD,asrtS,AV.dcells,D.cells?,stcV,stcS,leafOk,eqDs,eqD,packA,D.val?,↓reduceIte,reduceCtorEq,Nat.reduceAdd,Nat.reduceSub,Nat.reduceMul,List.reduceReplicate,Nat.reduceLeDiff,Nat.reduceLT,Nat.reduceBEq,Nat.reduceEqDiff,Int.reduceNeg,Int.reduceEq,Int.reduceLE,Int.reduceLT,tfb,ctz28,x28_56,z28_57,ctz57,z57_67,ctz67,z67_54,ctz54,z54_55,ctz55,z55_66,ctz66,z66_52,ctz52,x52_53,eq_self, d1', d2, c1', hk0]
        exact ⟨k + 1, ⟨⟨by omega, fun q hq => by rcases Nat.lt_succ_iff_lt_or_eq.1 hq with h' | rfl; exact hk2 q h'; exact d2⟩, by omega⟩, rfl⟩
      · have d2b : inB ((l.far.getD i default).getD k default) 0 100000 = false := by simpa using d2
        have hWf := hrow k d1 d2b
        simp (maxSteps := 4000000) +contextual (disch := first | omega | exact qdb_ok (by kernel_rfl) | exact okb_ok (by kernel_rfl)) only [bw1,bw2,bw3,bw4,bw5,bw6,bw7,bc0,bc1,bc2,bc3,bc4,bc5,bc6,bc7,bb0,setPs,AV.owns,AV.datF,AV.frz,AV.cpy,ifV,isEqB,nilV,nilX,AV.isNilS,AV.isNoRows,wk,dclo,datOf,binIs,addF,AV.isPtr,idxV,AV.isSl,AV.isSlice,AV.rows,ps,pv,extV,extS,AV.outs,AV.outF,packD,AV.dl,fieldV,fieldS,AV.cells?,AV.upr,AV.menc,AV.one,D.one,Value.oneCell',tagOf,AV.isApp,strV,strS,bolV,bolS,slcV,AV.isSlD,asrtS,AV.dcells,D.cells?,stcV,stcS,leafOk,eqDs,eqD,packA,D.val?,↓reduceIte,reduceCtorEq,Nat.reduceAdd,Nat.reduceSub,Nat.reduceMul,List.reduceReplicate,Nat.reduceLeDiff,Nat.reduceLT,Nat.reduceBEq,Nat.reduceEqDiff,Int.reduceNeg,Int.reduceEq,Int.reduceLE,Int.reduceLT,tfb,ctz28,x28_56,z28_57,ctz57,z57_67,ctz67,z67_54,ctz54,z54_55,ctz55,z55_66,ctz66,z66_52,ctz52,x52_53,eq_self, d1', d2b, c1', hk0, hi0, hWf]
    have d1' : ¬ (k : Int) < (l.far.getD i default).length := by omega
    have hro := row_end c3 fun q hq => hk2 q (by omega)
    simp (maxSteps := 4000000) +contextual (disch := first | omega | exact qdb_ok (by kernel_rfl) | exact okb_ok (by kernel_rfl)) only [bw1,bw2,bw3,bw4,bw5,bw6,bw7,bc0,bc1,bc2,bc3,bc4,bc5,bc6,bc7,bb0,setPs,AV.owns,AV.datF,AV.frz,AV.cpy,ifV,isEqB,nilV,nilX,AV.isNilS,AV.isNoRows,wk,dclo,datOf,binIs,addF,AV.isPtr,idxV,AV.isSl,AV.isSlice,AV.rows,ps,pv,extV,extS,AV.outs,AV.outF,packD,AV.dl,fieldV,fieldS,AV.cells?,AV.upr,AV.menc,AV.one,D.one,Value.oneCell',tagOf,AV.isApp,strV,strS,bolV,bolS,slcV,AV.isSlD,asrtS,AV.dcells,D.cells?,stcV,stcS,leafOk,eqDs,eqD,packA,D.val?,↓reduceIte,reduceCtorEq,Nat.reduceAdd,Nat.reduceSub,Nat.reduceMul,List.reduceReplicate,Nat.reduceLeDiff,Nat.reduceLT,Nat.reduceBEq,Nat.reduceEqDiff,Int.reduceNeg,Int.reduceEq,Int.reduceLE,Int.reduceLT,tfb,ctz28,x28_56,z28_57,ctz57,z57_67,ctz67,z67_54,ctz54,z54_55,ctz55,z55_66,ctz66,z66_52,ctz52,x52_53,eq_self, d1']
    try exact ⟨i + 1, ⟨⟨by omega, fun q hq => by rcases Nat.lt_succ_iff_lt_or_eq.1 hq with h' | rfl; exact hi3 q h'; exact hro⟩, by omega⟩, rfl⟩
  have c1' : ¬ (i : Int) < l.far.length := by omega
  have hWe : W = decide ((openN l.games l.games.length : Int) ≤ 8) := hW.trans (lea_end ⟨b1, b2⟩ (fun q hq => hi3 q (by omega)) (fun q hq => hj3 q hq))
  simp (maxSteps := 4000000) +contextual (disch := first | omega | exact qdb_ok (by kernel_rfl) | exact okb_ok (by kernel_rfl)) only [bw1,bw2,bw3,bw4,bw5,bw6,bw7,bc0,bc1,bc2,bc3,bc4,bc5,bc6,bc7,bb0,setPs,AV.owns,AV.datF,AV.frz,AV.cpy,ifV,isEqB,nilV,nilX,AV.isNilS,AV.isNoRows,wk,dclo,datOf,binIs,addF,AV.isPtr,idxV,AV.isSl,AV.isSlice,AV.rows,ps,pv,extV,extS,AV.outs,AV.outF,packD,AV.dl,fieldV,fieldS,AV.cells?,AV.upr,AV.menc,AV.one,D.one,Value.oneCell',tagOf,AV.isApp,strV,strS,bolV,bolS,slcV,AV.isSlD,asrtS,AV.dcells,D.cells?,stcV,stcS,leafOk,eqDs,eqD,packA,D.val?,↓reduceIte,reduceCtorEq,Nat.reduceAdd,Nat.reduceSub,Nat.reduceMul,List.reduceReplicate,Nat.reduceLeDiff,Nat.reduceLT,Nat.reduceBEq,Nat.reduceEqDiff,Int.reduceNeg,Int.reduceEq,Int.reduceLE,Int.reduceLT,tfb,ctz28,x28_56,z28_57,ctz57,z57_67,ctz67,z67_54,ctz54,z54_55,ctz55,z55_66,ctz66,z66_52,ctz52,x52_53,eq_self, c1', hWe]
def ent28 (args : List AV) (K : AV → List AV → Sto → Prop) (e : List AV) (s : Sto) : Prop := ent (α := (Lea)) (fun aa => [.agg aa.c]) (fun aa => aa.far.length ≤ 1000) (fun aa => .b (leaOk aa)) args K e s
theorem ent28_ok {args : List AV} {K : AV → List AV → Sto → Prop} {Q : Kt} {e : List AV} {s : Sto} (h : ent28 args K e s) : pcall Tryd.prog 28 args K Q e s := ent_ok (fun aa h => pf28 aa h) h
theorem eq28 {l : Lea} {KK : AV → List AV → Sto → Prop} {ee : List AV} {ss : Sto} : ent28 [.d (.agg l.c)] KK ee ss = ((l.far.length ≤ 1000) ∧ KK (.d (.b (leaOk l))) ee ss) := by
  unfold ent28; rw [ent_iff l (by intro b h; simpa [Prod.ext_iff, and_assoc, Int.ofNat_inj, ints_inj, gams_inj, fars_inj, gam_inj, lea_inj] using h) rfl]; simp
end Go.Proofs.YtmajlffglplcnaaDoor
